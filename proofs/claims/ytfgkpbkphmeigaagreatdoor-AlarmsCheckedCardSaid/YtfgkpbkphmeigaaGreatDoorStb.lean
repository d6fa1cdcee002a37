/-
 Stable sorting on lists: merging, what a merge of parts is, insertion by merging. Plain Lean.
-/
import Derived.Test.YtfgkpbkphmeigaaGreatDoorAiE
namespace Go.Proofs.YtfgkpbkphmeigaaGreatDoor
open Go Go.Ai
set_option linter.unusedSimpArgs false
set_option linter.unusedVariables false
set_option maxHeartbeats 4000000
section
variable {α : Type}
/-- Less, by a comparison. -/
abbrev ltC (c : α → α → Int) (x y : α) : Prop := c x y < 0
/-- A comparison that orders those of whom p speaks. -/
structure Swo (p : α → Prop) (c : α → α → Int) : Prop where
 irr : ∀ x, p x → ¬ltC c x x
 tr : ∀ x y z, p x → p y → p z → ltC c x y → ltC c y z → ltC c x z
 ntr : ∀ x y z, p x → p y → p z → ¬ltC c x y → ¬ltC c y z → ¬ltC c x z
/-- The merge of two lists: of those that are alike the left one's first. -/
def mrg (c : α → α → Int) : List α → List α → List α
 | [], l => l
 | l, [] => l
 | x :: xs, y :: ys => if c y x < 0 then y :: mrg c (x :: xs) ys else x :: mrg c xs (y :: ys)
termination_by l m => l.length + m.length
theorem mrg_nil (c : α → α → Int) (l : List α) : mrg c [] l = l := by unfold mrg; cases l <;> rfl
theorem mrg_nil' (c : α → α → Int) (l : List α) : mrg c l [] = l := by cases l <;> (unfold mrg; rfl)
theorem mrg_lt {c : α → α → Int} {x y : α} {xs ys : List α} (h : c y x < 0) : mrg c (x :: xs) (y :: ys) = y :: mrg c (x :: xs) ys := by
 rw [mrg, if_pos h]
theorem mrg_ge {c : α → α → Int} {x y : α} {xs ys : List α} (h : ¬c y x < 0) : mrg c (x :: xs) (y :: ys) = x :: mrg c xs (y :: ys) := by
 rw [mrg, if_neg h]
theorem mrg_len (c : α → α → Int) : ∀ (n : Nat) (l m : List α), l.length + m.length = n → (mrg c l m).length = l.length + m.length
 | n, [], m, _ => by rw [mrg_nil]; simp
 | n, l, [], _ => by rw [mrg_nil']; simp
 | 0, x :: xs, y :: ys, h => by simp at h
 | n + 1, x :: xs, y :: ys, h => by
  simp only [List.length_cons] at h
  by_cases hc : c y x < 0
  ·rw [mrg_lt hc, List.length_cons, mrg_len c n _ _ (by simp only [List.length_cons]; omega)]; simp only [List.length_cons]; omega
  ·rw [mrg_ge hc, List.length_cons, mrg_len c n _ _ (by simp only [List.length_cons]; omega)]; simp only [List.length_cons]; omega
theorem mrg_length (c : α → α → Int) (l m : List α) : (mrg c l m).length = l.length + m.length := mrg_len c _ l m rfl
theorem mrg_mem' (c : α → α → Int) : ∀ (n : Nat) (l m : List α), l.length + m.length = n → ∀ z, z ∈ mrg c l m ↔ z ∈ l ∨ z ∈ m
 | n, [], m, _, z => by rw [mrg_nil]; simp
 | n, l, [], _, z => by rw [mrg_nil']; simp
 | 0, x :: xs, y :: ys, h, z => by simp at h
 | n + 1, x :: xs, y :: ys, h, z => by
  simp only [List.length_cons] at h
  by_cases hc : c y x < 0
  ·rw [mrg_lt hc, List.mem_cons, mrg_mem' c n _ _ (by simp only [List.length_cons]; omega)]
   simp only [List.mem_cons]
   constructor
   ·rintro (h | h | h)
    ·exact .inr (.inl h)
    ·exact .inl h
    ·exact .inr (.inr h)
   ·rintro (h | h | h)
    ·exact .inr (.inl h)
    ·exact .inl h
    ·exact .inr (.inr h)
  ·rw [mrg_ge hc, List.mem_cons, mrg_mem' c n _ _ (by simp only [List.length_cons]; omega)]
   simp only [List.mem_cons, or_assoc]
theorem mrg_mem {c : α → α → Int} {l m : List α} {z : α} : z ∈ mrg c l m ↔ z ∈ l ∨ z ∈ m := mrg_mem' c _ l m rfl z
/-- The parts of a merge. -/
theorem mrg_split (c : α → α → Int) (u2 v2 : List α) : ∀ (n : Nat) (u1 v1 : List α), u1.length + v1.length = n → (∀ y ∈ v1, ∀ x ∈ u2, ltC c y x) → (∀ y ∈ v2, ∀ x ∈ u1, ¬ltC c y x) →
  mrg c (u1 ++ u2) (v1 ++ v2) = mrg c u1 v1 ++ mrg c u2 v2
 | n, [], [], _, _, _ => by rw [mrg_nil]; rfl
 | n, [], y :: v1, h, h1, h2 => by
  cases u2 with
  | nil => rw [List.append_nil, mrg_nil, mrg_nil, mrg_nil]
  | cons x u2 =>
   have h3 := mrg_split c (x :: u2) v2 (n - 1) [] v1 (by simp only [List.length_cons, List.length_nil] at h ⊢; omega) (fun z hz => h1 z (by simp [hz])) (fun z hz w hw => by simp at hw)
   rw [List.nil_append] at h3 ⊢
   rw [List.cons_append, mrg_lt (h1 y (by simp) x (by simp)), h3, mrg_nil, mrg_nil]; rfl
 | n, x :: u1, [], h, h1, h2 => by
  cases v2 with
  | nil => rw [List.append_nil, mrg_nil', mrg_nil', mrg_nil']
  | cons y v2 =>
   have h3 := mrg_split c u2 (y :: v2) (n - 1) u1 [] (by simp only [List.length_cons, List.length_nil] at h ⊢; omega) (fun z hz => by simp at hz) (fun z hz w hw => h2 z hz w (by simp [hw]))
   rw [List.nil_append] at h3 ⊢
   rw [List.cons_append, mrg_ge (h2 y (by simp) x (by simp)), h3, mrg_nil', mrg_nil']; rfl
 | 0, x :: u1, y :: v1, h, _, _ => by simp at h
 | n + 1, x :: u1, y :: v1, h, h1, h2 => by
  simp only [List.length_cons] at h
  rw [List.cons_append, List.cons_append]
  by_cases hc : c y x < 0
  ·rw [mrg_lt hc, mrg_lt hc, ← List.cons_append, mrg_split c u2 v2 n (x :: u1) v1 (by simp only [List.length_cons]; omega) (fun z hz => h1 z (by simp [hz])) h2]; rfl
  ·rw [mrg_ge hc, mrg_ge hc, ← List.cons_append, mrg_split c u2 v2 n u1 (y :: v1) (by simp only [List.length_cons]; omega) h1 (fun z hz w hw => h2 z hz w (by simp [hw]))]; rfl
theorem mrg_parts {c : α → α → Int} {u1 u2 v1 v2 : List α} (h1 : ∀ y ∈ v1, ∀ x ∈ u2, ltC c y x) (h2 : ∀ y ∈ v2, ∀ x ∈ u1, ¬ltC c y x) :
  mrg c (u1 ++ u2) (v1 ++ v2) = mrg c u1 v1 ++ mrg c u2 v2 := mrg_split c u2 v2 _ u1 v1 rfl h1 h2
/-- The stable order of a list. -/
def ssort (c : α → α → Int) (l : List α) : List α := l.foldl (fun s y => mrg c s [y]) []
theorem ssort_snoc (c : α → α → Int) (l : List α) (y : α) : ssort c (l ++ [y]) = mrg c (ssort c l) [y] := by
 unfold ssort; rw [List.foldl_append]; rfl
theorem ssort_go (c : α → α → Int) : ∀ (l s : List α), (∀ z, z ∈ l.foldl (fun s y => mrg c s [y]) s ↔ z ∈ s ∨ z ∈ l) ∧ (l.foldl (fun s y => mrg c s [y]) s).length = s.length + l.length
 | [], s => by simp
 | y :: l, s => by
  obtain ⟨h1, h2⟩ := ssort_go c l (mrg c s [y])
  rw [List.foldl_cons]
  refine ⟨fun z => ?_, ?_⟩
  ·rw [h1, mrg_mem]; simp [or_assoc]
  ·rw [h2, mrg_length]; simp only [List.length_cons, List.length_nil]; omega
theorem ssort_mem {c : α → α → Int} {l : List α} {z : α} : z ∈ ssort c l ↔ z ∈ l := by rw [ssort, (ssort_go c l []).1]; simp
theorem ssort_length (c : α → α → Int) (l : List α) : (ssort c l).length = l.length := by rw [ssort, (ssort_go c l []).2]; simp
/-- In order: none is less than one before it. -/
def Ord (c : α → α → Int) (l : List α) : Prop := l.Pairwise fun x y => ¬ltC c y x
theorem mrg_ord' {p : α → Prop} {c : α → α → Int} (h : Swo p c) : ∀ (n : Nat) (l m : List α), l.length + m.length = n → (∀ x ∈ l, p x) → (∀ x ∈ m, p x) → Ord c l → Ord c m → Ord c (mrg c l m)
 | n, [], m, _, _, _, _, hm => by rw [mrg_nil]; exact hm
 | n, l, [], _, _, _, hl, _ => by rw [mrg_nil']; exact hl
 | 0, x :: xs, y :: ys, hn, _, _, _, _ => by simp at hn
 | n + 1, x :: xs, y :: ys, hn, pl, pm, hl, hm => by
  simp only [List.length_cons] at hn
  have px := pl x (by simp)
  have py := pm y (by simp)
  have hl' := List.pairwise_cons.1 hl
  have hm' := List.pairwise_cons.1 hm
  by_cases hc : c y x < 0
  ·rw [mrg_lt hc]
   refine List.pairwise_cons.2 ⟨fun z hz => ?_, mrg_ord' h n _ _ (by simp only [List.length_cons]; omega) pl (fun z hz => pm z (by simp [hz])) hl hm'.2⟩
   rcases mrg_mem.1 hz with hz | hz
   ·have pz := pl z hz
    rcases List.mem_cons.1 hz with rfl | hz
    ·intro h1; exact h.irr y py (h.tr y z y py pz py hc h1)
    ·intro h1; exact hl'.1 z hz (h.tr z y x pz py px h1 hc)
   ·exact hm'.1 z hz
  ·rw [mrg_ge hc]
   refine List.pairwise_cons.2 ⟨fun z hz => ?_, mrg_ord' h n _ _ (by simp only [List.length_cons]; omega) (fun z hz => pl z (by simp [hz])) pm hl'.2 hm⟩
   rcases mrg_mem.1 hz with hz | hz
   ·exact hl'.1 z hz
   ·have pz := pm z hz
    rcases List.mem_cons.1 hz with rfl | hz
    ·exact hc
    ·exact h.ntr z y x pz py px (hm'.1 z hz) hc
theorem mrg_ord {p : α → Prop} {c : α → α → Int} (h : Swo p c) {l m : List α} (pl : ∀ x ∈ l, p x) (pm : ∀ x ∈ m, p x) (hl : Ord c l) (hm : Ord c m) : Ord c (mrg c l m) := mrg_ord' h _ l m rfl pl pm hl hm
theorem ssort_ord_go {p : α → Prop} {c : α → α → Int} (h : Swo p c) : ∀ (l s : List α), (∀ x ∈ s, p x) → (∀ x ∈ l, p x) → Ord c s → Ord c (l.foldl (fun s y => mrg c s [y]) s)
 | [], s, _, _, hs => hs
 | y :: l, s, ps, pl, hs => by
  rw [List.foldl_cons]
  have py := pl y (by simp)
  refine ssort_ord_go h l _ (fun x hx => ?_) (fun x hx => pl x (by simp [hx])) (mrg_ord h ps (fun x hx => by simp at hx; subst hx; exact py) hs (List.pairwise_singleton _ _))
  rcases mrg_mem.1 hx with hx | hx
  ·exact ps x hx
  ·simp at hx; subst hx; exact py
theorem ssort_ord {p : α → Prop} {c : α → α → Int} (h : Swo p c) {l : List α} (pl : ∀ x ∈ l, p x) : Ord c (ssort c l) := ssort_ord_go h l [] (fun x hx => by simp at hx) pl List.Pairwise.nil
/-- One that is put behind those that are not greater. -/
theorem mrg_last {c : α → α → Int} {a b : List α} {y : α} (h1 : ∀ x ∈ a, ¬ltC c y x) (h2 : ∀ x ∈ b, ltC c y x) : mrg c (a ++ b) [y] = a ++ y :: b := by
 have := mrg_parts (c := c) (u1 := a) (u2 := b) (v1 := []) (v2 := [y]) (fun z hz => by simp at hz) (fun z hz x hx => by simp at hz; subst hz; exact h1 x hx)
 rw [List.nil_append] at this
 rw [this, mrg_nil']
 congr 1
 cases b with
 | nil => rw [mrg_nil]
 | cons x b => rw [mrg_lt (h2 x (by simp)), mrg_nil']
end
section
variable {α : Type} [Inhabited α]
theorem ord_at {c : α → α → Int} {l : List α} (h : Ord c l) {i j : Nat} (hij : i < j) (hj : j < l.length) : ¬ltC c (l.getD j default) (l.getD i default) := by
 have h2 := List.pairwise_iff_getElem.1 h i j (by omega) hj hij
 rw [List.getD_eq_getElem?_getD, List.getD_eq_getElem?_getD, List.getElem?_eq_getElem hj, List.getElem?_eq_getElem (by omega)]
 exact h2
theorem mem_at {l : List α} {i : Nat} (h : i < l.length) : l.getD i default ∈ l := by
 rw [List.getD_eq_getElem?_getD, List.getElem?_eq_getElem h]; exact List.getElem_mem _
theorem at_mem {l : List α} {x : α} (h : x ∈ l) : ∃ i, i < l.length ∧ l.getD i default = x := by
 obtain ⟨i, hi, rfl⟩ := List.mem_iff_getElem.1 h
 exact ⟨i, hi, by rw [List.getD_eq_getElem?_getD, List.getElem?_eq_getElem hi]; rfl⟩
def swx (l : List α) (i j : Nat) : List α := (l.set i (l.getD j default)).set j (l.getD i default)
theorem getD_app (p s : List α) (x : α) : (p ++ x :: s).getD p.length default = x := by simp [List.getD_eq_getElem?_getD]
omit [Inhabited α] in
theorem set_app (p s : List α) (x y : α) : (p ++ x :: s).set p.length y = p ++ y :: s := by simp
theorem swx_split {p q s : List α} {x y : α} {i j : Nat} (hi : i = p.length) (hj : j = p.length + 1 + q.length) : swx (p ++ x :: (q ++ y :: s)) i j = p ++ y :: (q ++ x :: s) := by
 subst hi
 have e : p ++ x :: (q ++ y :: s) = (p ++ x :: q) ++ y :: s := by simp
 have hj' : j = (p ++ x :: q).length := by simp; omega
 unfold swx
 rw [getD_app]
 rw [show (p ++ x :: (q ++ y :: s)).getD j default = y by rw [e, hj', getD_app]]
 rw [set_app]
 have e2 : p ++ y :: (q ++ y :: s) = (p ++ y :: q) ++ y :: s := by simp
 have hj2 : j = (p ++ y :: q).length := by simp; omega
 rw [e2, hj2, set_app]
 simp
theorem swx_symm (l : List α) (i j : Nat) (hij : i ≠ j) : swx l i j = (l.set j (l.getD i default)).set i (l.getD j default) := by
 unfold swx; rw [List.set_comm _ _ hij]
theorem take_snoc {l : List α} {i : Nat} (h : i < l.length) : l.take (i + 1) = l.take i ++ [l.getD i default] := by
 rw [List.take_add_one, List.getD_eq_getElem?_getD, List.getElem?_eq_getElem h]; rfl
theorem drop_here {l : List α} {i : Nat} (h : i < l.length) : l.drop i = l.getD i default :: l.drop (i + 1) := by
 rw [List.drop_eq_getElem_cons h, List.getD_eq_getElem?_getD, List.getElem?_eq_getElem h]; rfl
omit [Inhabited α] in
end
end Go.Proofs.YtfgkpbkphmeigaaGreatDoor

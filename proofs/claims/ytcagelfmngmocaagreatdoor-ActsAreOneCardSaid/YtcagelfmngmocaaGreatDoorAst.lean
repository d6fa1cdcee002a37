
/-
 Stable sorting on lists: merging, what a merge of parts is, insertion by merging. Plain Lean.
 Alarms: their events, their states, what is told of them. Plain Lean.
-/
import Derived.Test.YtcagelfmngmocaaGreatDoorAiR
import Derived.Test.YtcagelfmngmocaaGreatDoorAlp
namespace Go.Proofs.YtcagelfmngmocaaGreatDoor
open Go Go.Ai
set_option linter.unusedSimpArgs false
set_option linter.unusedVariables false
set_option maxHeartbeats 4000000
section
variable {α : Type}
/-- Less, by a comparison. -/
abbrev ltC (c : α → α → Int) (x y : α) : Prop := c x y < 0
/-- A comparison that orders those of whom p speaks. -/
structure Swo (p : α → Prop) (c : α → α → Int) : Prop where
 irr : ∀ x, p x → ¬ltC c x x
 tr : ∀ x y z, p x → p y → p z → ltC c x y → ltC c y z → ltC c x z
 ntr : ∀ x y z, p x → p y → p z → ¬ltC c x y → ¬ltC c y z → ¬ltC c x z
/-- The merge of two lists: of those that are alike the left one's first. -/
def mrg (c : α → α → Int) : List α → List α → List α
 | [], l => l
 | l, [] => l
 | x :: xs, y :: ys => if c y x < 0 then y :: mrg c (x :: xs) ys else x :: mrg c xs (y :: ys)
termination_by l m => l.length + m.length
theorem mrg_nil (c : α → α → Int) (l : List α) : mrg c [] l = l := by unfold mrg; cases l <;> rfl
theorem mrg_nil' (c : α → α → Int) (l : List α) : mrg c l [] = l := by cases l <;> (unfold mrg; rfl)
theorem mrg_lt {c : α → α → Int} {x y : α} {xs ys : List α} (h : c y x < 0) : mrg c (x :: xs) (y :: ys) = y :: mrg c (x :: xs) ys := by
 rw [mrg, if_pos h]
theorem mrg_ge {c : α → α → Int} {x y : α} {xs ys : List α} (h : ¬c y x < 0) : mrg c (x :: xs) (y :: ys) = x :: mrg c xs (y :: ys) := by
 rw [mrg, if_neg h]
theorem mrg_len (c : α → α → Int) : ∀ (n : Nat) (l m : List α), l.length + m.length = n → (mrg c l m).length = l.length + m.length
 | n, [], m, _ => by rw [mrg_nil]; simp
 | n, l, [], _ => by rw [mrg_nil']; simp
 | 0, x :: xs, y :: ys, h => by simp at h
 | n + 1, x :: xs, y :: ys, h => by
  simp only [List.length_cons] at h
  by_cases hc : c y x < 0
  ·rw [mrg_lt hc, List.length_cons, mrg_len c n _ _ (by simp only [List.length_cons]; omega)]; simp only [List.length_cons]; omega
  ·rw [mrg_ge hc, List.length_cons, mrg_len c n _ _ (by simp only [List.length_cons]; omega)]; simp only [List.length_cons]; omega
theorem mrg_length (c : α → α → Int) (l m : List α) : (mrg c l m).length = l.length + m.length := mrg_len c _ l m rfl
theorem mrg_mem' (c : α → α → Int) : ∀ (n : Nat) (l m : List α), l.length + m.length = n → ∀ z, z ∈ mrg c l m ↔ z ∈ l ∨ z ∈ m
 | n, [], m, _, z => by rw [mrg_nil]; simp
 | n, l, [], _, z => by rw [mrg_nil']; simp
 | 0, x :: xs, y :: ys, h, z => by simp at h
 | n + 1, x :: xs, y :: ys, h, z => by
  simp only [List.length_cons] at h
  by_cases hc : c y x < 0
  ·rw [mrg_lt hc, List.mem_cons, mrg_mem' c n _ _ (by simp only [List.length_cons]; omega)]
   simp only [List.mem_cons]
   constructor
   ·rintro (h | h | h)
    ·exact .inr (.inl h)
    ·exact .inl h
    ·exact .inr (.inr h)
   ·rintro (h | h | h)
    ·exact .inr (.inl h)
    ·exact .inl h
    ·exact .inr (.inr h)
  ·rw [mrg_ge hc, List.mem_cons, mrg_mem' c n _ _ (by simp only [List.length_cons]; omega)]
   simp only [List.mem_cons, or_assoc]
theorem mrg_mem {c : α → α → Int} {l m : List α} {z : α} : z ∈ mrg c l m ↔ z ∈ l ∨ z ∈ m := mrg_mem' c _ l m rfl z
/-- The parts of a merge. -/
theorem mrg_split (c : α → α → Int) (u2 v2 : List α) : ∀ (n : Nat) (u1 v1 : List α), u1.length + v1.length = n → (∀ y ∈ v1, ∀ x ∈ u2, ltC c y x) → (∀ y ∈ v2, ∀ x ∈ u1, ¬ltC c y x) →
  mrg c (u1 ++ u2) (v1 ++ v2) = mrg c u1 v1 ++ mrg c u2 v2
 | n, [], [], _, _, _ => by rw [mrg_nil]; rfl
 | n, [], y :: v1, h, h1, h2 => by
  cases u2 with
  | nil => rw [List.append_nil, mrg_nil, mrg_nil, mrg_nil]
  | cons x u2 =>
   have h3 := mrg_split c (x :: u2) v2 (n - 1) [] v1 (by simp only [List.length_cons, List.length_nil] at h ⊢; omega) (fun z hz => h1 z (by simp [hz])) (fun z hz w hw => by simp at hw)
   rw [List.nil_append] at h3 ⊢
   rw [List.cons_append, mrg_lt (h1 y (by simp) x (by simp)), h3, mrg_nil, mrg_nil]; rfl
 | n, x :: u1, [], h, h1, h2 => by
  cases v2 with
  | nil => rw [List.append_nil, mrg_nil', mrg_nil', mrg_nil']
  | cons y v2 =>
   have h3 := mrg_split c u2 (y :: v2) (n - 1) u1 [] (by simp only [List.length_cons, List.length_nil] at h ⊢; omega) (fun z hz => by simp at hz) (fun z hz w hw => h2 z hz w (by simp [hw]))
   rw [List.nil_append] at h3 ⊢
   rw [List.cons_append, mrg_ge (h2 y (by simp) x (by simp)), h3, mrg_nil', mrg_nil']; rfl
 | 0, x :: u1, y :: v1, h, _, _ => by simp at h
 | n + 1, x :: u1, y :: v1, h, h1, h2 => by
  simp only [List.length_cons] at h
  rw [List.cons_append, List.cons_append]
  by_cases hc : c y x < 0
  ·rw [mrg_lt hc, mrg_lt hc, ← List.cons_append, mrg_split c u2 v2 n (x :: u1) v1 (by simp only [List.length_cons]; omega) (fun z hz => h1 z (by simp [hz])) h2]; rfl
  ·rw [mrg_ge hc, mrg_ge hc, ← List.cons_append, mrg_split c u2 v2 n u1 (y :: v1) (by simp only [List.length_cons]; omega) h1 (fun z hz w hw => h2 z hz w (by simp [hw]))]; rfl
theorem mrg_parts {c : α → α → Int} {u1 u2 v1 v2 : List α} (h1 : ∀ y ∈ v1, ∀ x ∈ u2, ltC c y x) (h2 : ∀ y ∈ v2, ∀ x ∈ u1, ¬ltC c y x) :
  mrg c (u1 ++ u2) (v1 ++ v2) = mrg c u1 v1 ++ mrg c u2 v2 := mrg_split c u2 v2 _ u1 v1 rfl h1 h2
/-- Merging is associative. -/
theorem mrg_assoc' {p : α → Prop} {c : α → α → Int} (h : Swo p c) : ∀ (n : Nat) (a b d : List α), a.length + b.length + d.length = n → (∀ x ∈ a, p x) → (∀ x ∈ b, p x) → (∀ x ∈ d, p x) → mrg c (mrg c a b) d = mrg c a (mrg c b d)
 | n, [], b, d, _, _, _, _ => by rw [mrg_nil, mrg_nil]
 | n, a, [], d, _, _, _, _ => by rw [mrg_nil, mrg_nil']
 | n, a, b, [], _, _, _, _ => by rw [mrg_nil', mrg_nil']
 | 0, x :: a, y :: b, z :: d, hn, _, _, _ => by simp at hn
 | n + 1, x :: a, y :: b, z :: d, hn, ha, hb, hd => by
  simp only [List.length_cons] at hn
  have px := ha x (by simp)
  have py := hb y (by simp)
  have pz := hd z (by simp)
  have ha' : ∀ x ∈ a, p x := fun x hx => ha x (by simp [hx])
  have hb' : ∀ x ∈ b, p x := fun x hx => hb x (by simp [hx])
  have hd' : ∀ x ∈ d, p x := fun x hx => hd x (by simp [hx])
  by_cases h1 : c y x < 0
  ·by_cases h2 : c z y < 0
   ·have h3 : c z x < 0 := h.tr z y x pz py px h2 h1
    have e := mrg_assoc' h n (x :: a) (y :: b) d (by simp only [List.length_cons]; omega) ha hb hd'
    rw [mrg_lt h1] at e ⊢
    rw [mrg_lt h2, mrg_lt h2, mrg_lt h3, e]
   ·have e := mrg_assoc' h n (x :: a) b (z :: d) (by simp only [List.length_cons]; omega) ha hb' hd
    rw [mrg_lt h1, mrg_ge h2, mrg_ge h2, mrg_lt h1, e]
  ·by_cases h2 : c z x < 0
   ·have h3 : c z y < 0 := by
     by_cases h3 : c z y < 0
     ·exact h3
     ·exact absurd h2 (h.ntr z y x pz py px h3 h1)
    have e := mrg_assoc' h n (x :: a) (y :: b) d (by simp only [List.length_cons]; omega) ha hb hd'
    rw [mrg_ge h1] at e ⊢
    rw [mrg_lt h2, mrg_lt h3, mrg_lt h2, e]
   ·have e := mrg_assoc' h n a (y :: b) (z :: d) (by simp only [List.length_cons]; omega) ha' hb hd
    rw [mrg_ge h1, mrg_ge h2, e]
    by_cases h3 : c z y < 0
    ·rw [mrg_lt h3, mrg_ge h2]
    ·rw [mrg_ge h3, mrg_ge h1]
theorem mrg_assoc {p : α → Prop} {c : α → α → Int} (h : Swo p c) {a b d : List α} (ha : ∀ x ∈ a, p x) (hb : ∀ x ∈ b, p x) (hd : ∀ x ∈ d, p x) : mrg c (mrg c a b) d = mrg c a (mrg c b d) :=
 mrg_assoc' h _ a b d rfl ha hb hd
/-- The stable order of a list. -/
def ssort (c : α → α → Int) (l : List α) : List α := l.foldl (fun s y => mrg c s [y]) []
theorem ssort_snoc (c : α → α → Int) (l : List α) (y : α) : ssort c (l ++ [y]) = mrg c (ssort c l) [y] := by
 unfold ssort; rw [List.foldl_append]; rfl
theorem ssort_go (c : α → α → Int) : ∀ (l s : List α), (∀ z, z ∈ l.foldl (fun s y => mrg c s [y]) s ↔ z ∈ s ∨ z ∈ l) ∧ (l.foldl (fun s y => mrg c s [y]) s).length = s.length + l.length
 | [], s => by simp
 | y :: l, s => by
  obtain ⟨h1, h2⟩ := ssort_go c l (mrg c s [y])
  rw [List.foldl_cons]
  refine ⟨fun z => ?_, ?_⟩
  ·rw [h1, mrg_mem]; simp [or_assoc]
  ·rw [h2, mrg_length]; simp only [List.length_cons, List.length_nil]; omega
theorem ssort_mem {c : α → α → Int} {l : List α} {z : α} : z ∈ ssort c l ↔ z ∈ l := by rw [ssort, (ssort_go c l []).1]; simp
theorem ssort_length (c : α → α → Int) (l : List α) : (ssort c l).length = l.length := by rw [ssort, (ssort_go c l []).2]; simp
theorem ssort_append' {p : α → Prop} {c : α → α → Int} (h : Swo p c) (a : List α) (ha : ∀ x ∈ a, p x) : ∀ (n : Nat) (b : List α), b.length = n → (∀ x ∈ b, p x) → ssort c (a ++ b) = mrg c (ssort c a) (ssort c b)
 | 0, b, hb, _ => by
  have : b = [] := List.length_eq_zero_iff.1 hb
  subst this
  rw [List.append_nil, show ssort c ([] : List α) = [] from rfl, mrg_nil']
 | n + 1, b, hb, hp => by
  have hne : b ≠ [] := fun he => by subst he; simp at hb
  obtain ⟨b', y, rfl⟩ : ∃ b' y, b = b' ++ [y] := ⟨b.dropLast, b.getLast hne, (List.dropLast_concat_getLast hne).symm⟩
  rw [← List.append_assoc, ssort_snoc, ssort_snoc, ssort_append' h a ha n b' (by simpa using hb) (fun x hx => hp x (by simp [hx]))]
  exact mrg_assoc h (fun x hx => ha x (ssort_mem.1 hx)) (fun x hx => hp x (List.mem_append_left _ (ssort_mem.1 hx))) (fun x hx => hp x (List.mem_append_right _ hx))
theorem ssort_append {p : α → Prop} {c : α → α → Int} (h : Swo p c) {a b : List α} (ha : ∀ x ∈ a, p x) (hb : ∀ x ∈ b, p x) : ssort c (a ++ b) = mrg c (ssort c a) (ssort c b) := ssort_append' h a ha _ b rfl hb
/-- In order: none is less than one before it. -/
def Ord (c : α → α → Int) (l : List α) : Prop := l.Pairwise fun x y => ¬ltC c y x
theorem mrg_ord' {p : α → Prop} {c : α → α → Int} (h : Swo p c) : ∀ (n : Nat) (l m : List α), l.length + m.length = n → (∀ x ∈ l, p x) → (∀ x ∈ m, p x) → Ord c l → Ord c m → Ord c (mrg c l m)
 | n, [], m, _, _, _, _, hm => by rw [mrg_nil]; exact hm
 | n, l, [], _, _, _, hl, _ => by rw [mrg_nil']; exact hl
 | 0, x :: xs, y :: ys, hn, _, _, _, _ => by simp at hn
 | n + 1, x :: xs, y :: ys, hn, pl, pm, hl, hm => by
  simp only [List.length_cons] at hn
  have px := pl x (by simp)
  have py := pm y (by simp)
  have hl' := List.pairwise_cons.1 hl
  have hm' := List.pairwise_cons.1 hm
  by_cases hc : c y x < 0
  ·rw [mrg_lt hc]
   refine List.pairwise_cons.2 ⟨fun z hz => ?_, mrg_ord' h n _ _ (by simp only [List.length_cons]; omega) pl (fun z hz => pm z (by simp [hz])) hl hm'.2⟩
   rcases mrg_mem.1 hz with hz | hz
   ·have pz := pl z hz
    rcases List.mem_cons.1 hz with rfl | hz
    ·intro h1; exact h.irr y py (h.tr y z y py pz py hc h1)
    ·intro h1; exact hl'.1 z hz (h.tr z y x pz py px h1 hc)
   ·exact hm'.1 z hz
  ·rw [mrg_ge hc]
   refine List.pairwise_cons.2 ⟨fun z hz => ?_, mrg_ord' h n _ _ (by simp only [List.length_cons]; omega) (fun z hz => pl z (by simp [hz])) pm hl'.2 hm⟩
   rcases mrg_mem.1 hz with hz | hz
   ·exact hl'.1 z hz
   ·have pz := pm z hz
    rcases List.mem_cons.1 hz with rfl | hz
    ·exact hc
    ·exact h.ntr z y x pz py px (hm'.1 z hz) hc
theorem mrg_ord {p : α → Prop} {c : α → α → Int} (h : Swo p c) {l m : List α} (pl : ∀ x ∈ l, p x) (pm : ∀ x ∈ m, p x) (hl : Ord c l) (hm : Ord c m) : Ord c (mrg c l m) := mrg_ord' h _ l m rfl pl pm hl hm
theorem ssort_ord_go {p : α → Prop} {c : α → α → Int} (h : Swo p c) : ∀ (l s : List α), (∀ x ∈ s, p x) → (∀ x ∈ l, p x) → Ord c s → Ord c (l.foldl (fun s y => mrg c s [y]) s)
 | [], s, _, _, hs => hs
 | y :: l, s, ps, pl, hs => by
  rw [List.foldl_cons]
  have py := pl y (by simp)
  refine ssort_ord_go h l _ (fun x hx => ?_) (fun x hx => pl x (by simp [hx])) (mrg_ord h ps (fun x hx => by simp at hx; subst hx; exact py) hs (List.pairwise_singleton _ _))
  rcases mrg_mem.1 hx with hx | hx
  ·exact ps x hx
  ·simp at hx; subst hx; exact py
theorem ssort_ord {p : α → Prop} {c : α → α → Int} (h : Swo p c) {l : List α} (pl : ∀ x ∈ l, p x) : Ord c (ssort c l) := ssort_ord_go h l [] (fun x hx => by simp at hx) pl List.Pairwise.nil
/-- One that is put behind those that are not greater. -/
theorem mrg_last {c : α → α → Int} {a b : List α} {y : α} (h1 : ∀ x ∈ a, ¬ltC c y x) (h2 : ∀ x ∈ b, ltC c y x) : mrg c (a ++ b) [y] = a ++ y :: b := by
 have := mrg_parts (c := c) (u1 := a) (u2 := b) (v1 := []) (v2 := [y]) (fun z hz => by simp at hz) (fun z hz x hx => by simp at hz; subst hz; exact h1 x hx)
 rw [List.nil_append] at this
 rw [this, mrg_nil']
 congr 1
 cases b with
 | nil => rw [mrg_nil]
 | cons x b => rw [mrg_lt (h2 x (by simp)), mrg_nil']
theorem mrg_first {c : α → α → Int} {a b : List α} {x : α} (h1 : ∀ y ∈ a, ltC c y x) (h2 : ∀ y ∈ b, ¬ltC c y x) : mrg c [x] (a ++ b) = a ++ x :: b := by
 have := mrg_parts (c := c) (u1 := []) (u2 := [x]) (v1 := a) (v2 := b) (fun z hz w hw => by simp at hw; subst hw; exact h1 z hz) (fun z hz w hw => by simp at hw)
 rw [List.nil_append] at this
 rw [this, mrg_nil]
 congr 1
 cases b with
 | nil => rw [mrg_nil']
 | cons y b => rw [mrg_ge (h2 y (by simp)), mrg_nil]
end
section
variable {α : Type} [Inhabited α]
theorem ord_at {c : α → α → Int} {l : List α} (h : Ord c l) {i j : Nat} (hij : i < j) (hj : j < l.length) : ¬ltC c (l.getD j default) (l.getD i default) := by
 have h2 := List.pairwise_iff_getElem.1 h i j (by omega) hj hij
 rw [List.getD_eq_getElem?_getD, List.getD_eq_getElem?_getD, List.getElem?_eq_getElem hj, List.getElem?_eq_getElem (by omega)]
 exact h2
theorem mem_at {l : List α} {i : Nat} (h : i < l.length) : l.getD i default ∈ l := by
 rw [List.getD_eq_getElem?_getD, List.getElem?_eq_getElem h]; exact List.getElem_mem _
theorem at_mem {l : List α} {x : α} (h : x ∈ l) : ∃ i, i < l.length ∧ l.getD i default = x := by
 obtain ⟨i, hi, rfl⟩ := List.mem_iff_getElem.1 h
 exact ⟨i, hi, by rw [List.getD_eq_getElem?_getD, List.getElem?_eq_getElem hi]; rfl⟩
theorem getD_take' {l : List α} {i n : Nat} (h : i < n) : (l.take n).getD i default = l.getD i default := by
 simp [List.getD_eq_getElem?_getD, List.getElem?_take, h]
theorem getD_drop' {l : List α} {i n : Nat} : (l.drop n).getD i default = l.getD (n + i) default := by
 simp [List.getD_eq_getElem?_getD, List.getElem?_drop]
/-- Where two lists in order are cut. -/
theorem sym_cut {p : α → Prop} {c : α → α → Int} (h : Swo p c) {u v : List α} (pu : ∀ x ∈ u, p x) (pv : ∀ x ∈ v, p x) (ou : Ord c u) (ov : Ord c v) {i j : Nat} (hi : i ≤ u.length) (hj : j ≤ v.length)
  (h1 : i = 0 ∨ j = v.length ∨ ¬ltC c (v.getD j default) (u.getD (i - 1) default)) (h2 : i = u.length ∨ j = 0 ∨ ltC c (v.getD (j - 1) default) (u.getD i default)) :
  mrg c u v = mrg c (u.take i) (v.take j) ++ mrg c (u.drop i) (v.drop j) := by
 have := mrg_parts (c := c) (u1 := u.take i) (u2 := u.drop i) (v1 := v.take j) (v2 := v.drop j) (fun y hy x hx => ?_) (fun y hy x hx => ?_)
 ·rw [List.take_append_drop, List.take_append_drop] at this; exact this
 ·obtain ⟨k, hk, rfl⟩ := at_mem hy
  obtain ⟨m, hm, rfl⟩ := at_mem hx
  rw [List.length_take] at hk
  rw [List.length_drop] at hm
  rw [getD_take' (by omega), getD_drop']
  have h3 : ltC c (v.getD (j - 1) default) (u.getD i default) := by rcases h2 with h2 | h2 | h2 <;> first | omega | exact h2
  have p1 := pv _ (mem_at (l := v) (i := k) (by omega))
  have p2 := pv _ (mem_at (l := v) (i := j - 1) (by omega))
  have p3 := pu _ (mem_at (l := u) (i := i) (by omega))
  have p4 := pu _ (mem_at (l := u) (i := i + m) (by omega))
  have h4 : ¬ltC c (v.getD (j - 1) default) (v.getD k default) := by
   by_cases e : k = j - 1
   ·rw [e]; exact h.irr _ p2
   ·exact ord_at ov (by omega) (by omega)
  have h5 : ¬ltC c (u.getD (i + m) default) (u.getD i default) := by
   by_cases e : m = 0
   ·rw [e]; exact h.irr _ p3
   ·exact ord_at ou (by omega) (by omega)
  by_cases h6 : ltC c (v.getD k default) (u.getD (i + m) default)
  ·exact h6
  ·exact absurd h3 (h.ntr _ _ _ p2 p1 p3 h4 (h.ntr _ _ _ p1 p4 p3 h6 h5))
 ·obtain ⟨k, hk, rfl⟩ := at_mem hy
  obtain ⟨m, hm, rfl⟩ := at_mem hx
  rw [List.length_take] at hm
  rw [List.length_drop] at hk
  rw [getD_take' (by omega), getD_drop']
  have h3 : ¬ltC c (v.getD j default) (u.getD (i - 1) default) := by rcases h1 with h1 | h1 | h1 <;> first | omega | exact h1
  have p1 := pv _ (mem_at (l := v) (i := j + k) (by omega))
  have p2 := pv _ (mem_at (l := v) (i := j) (by omega))
  have p3 := pu _ (mem_at (l := u) (i := i - 1) (by omega))
  have p4 := pu _ (mem_at (l := u) (i := m) (by omega))
  have h4 : ¬ltC c (v.getD (j + k) default) (v.getD j default) := by
   by_cases e : k = 0
   ·rw [e]; exact h.irr _ p2
   ·exact ord_at ov (by omega) (by omega)
  have h5 : ¬ltC c (u.getD (i - 1) default) (u.getD m default) := by
   by_cases e : m = i - 1
   ·rw [e]; exact h.irr _ p3
   ·exact ord_at ou (by omega) (by omega)
  exact h.ntr _ _ _ p1 p2 p4 h4 (h.ntr _ _ _ p2 p3 p4 h3 h5)
/-! ### swapping -/
def swx (l : List α) (i j : Nat) : List α := (l.set i (l.getD j default)).set j (l.getD i default)
theorem getD_app (p s : List α) (x : α) : (p ++ x :: s).getD p.length default = x := by simp [List.getD_eq_getElem?_getD]
omit [Inhabited α] in
theorem set_app (p s : List α) (x y : α) : (p ++ x :: s).set p.length y = p ++ y :: s := by simp
theorem swx_split {p q s : List α} {x y : α} {i j : Nat} (hi : i = p.length) (hj : j = p.length + 1 + q.length) : swx (p ++ x :: (q ++ y :: s)) i j = p ++ y :: (q ++ x :: s) := by
 subst hi
 have e : p ++ x :: (q ++ y :: s) = (p ++ x :: q) ++ y :: s := by simp
 have hj' : j = (p ++ x :: q).length := by simp; omega
 unfold swx
 rw [getD_app]
 rw [show (p ++ x :: (q ++ y :: s)).getD j default = y by rw [e, hj', getD_app]]
 rw [set_app]
 have e2 : p ++ y :: (q ++ y :: s) = (p ++ y :: q) ++ y :: s := by simp
 have hj2 : j = (p ++ y :: q).length := by simp; omega
 rw [e2, hj2, set_app]
 simp
theorem swx_symm (l : List α) (i j : Nat) (hij : i ≠ j) : swx l i j = (l.set j (l.getD i default)).set i (l.getD j default) := by
 unfold swx; rw [List.set_comm _ _ hij]
theorem swx_swp (l : List α) (i j : Nat) (hij : i ≠ j) (hi : i < l.length) (hj : j < l.length) : swx (swx l i j) i j = l := by
 have h1 : (swx l i j).getD j default = l.getD i default := by
  unfold swx
  rw [List.getD_eq_getElem?_getD, List.getElem?_set_self (by simpa using hj)]; rfl
 have h2 : (swx l i j).getD i default = l.getD j default := by
  unfold swx
  rw [List.getD_eq_getElem?_getD, List.getElem?_set_ne (by omega), List.getElem?_set_self (by simpa using hi)]; rfl
 refine List.ext_getElem? fun k => ?_
 show (((swx l i j).set i ((swx l i j).getD j default)).set j ((swx l i j).getD i default))[k]? = _
 rw [h1, h2]
 simp only [swx, List.getElem?_set, List.length_set]
 by_cases e1 : j = k
 ·subst e1
  simp [hj, List.getD_eq_getElem?_getD, List.getElem?_eq_getElem hj]
 ·by_cases e2 : i = k
  ·subst e2
   simp [hi, e1, List.getD_eq_getElem?_getD, List.getElem?_eq_getElem hi]
  ·simp [e1, e2]
/-- Two stretches of the same length, of which i pairs have changed places. -/
def swr (p u q v s : List α) (i : Nat) : List α := p ++ (v.take i ++ (u.drop i ++ (q ++ (u.take i ++ (v.drop i ++ s)))))
theorem take_snoc {l : List α} {i : Nat} (h : i < l.length) : l.take (i + 1) = l.take i ++ [l.getD i default] := by
 rw [List.take_add_one, List.getD_eq_getElem?_getD, List.getElem?_eq_getElem h]; rfl
theorem drop_here {l : List α} {i : Nat} (h : i < l.length) : l.drop i = l.getD i default :: l.drop (i + 1) := by
 rw [List.drop_eq_getElem_cons h, List.getD_eq_getElem?_getD, List.getElem?_eq_getElem h]; rfl
omit [Inhabited α] in
theorem swr_len (p u q v s : List α) (i : Nat) (h : u.length = v.length) : (swr p u q v s i).length = p.length + u.length + q.length + v.length + s.length := by
 simp [swr]; omega
theorem swr_step {p u q v s : List α} {i a b : Nat} (h : u.length = v.length) (hi : i < u.length) (ha : a = p.length + i) (hb : b = p.length + u.length + q.length + i) :
  swx (swr p u q v s i) a b = swr p u q v s (i + 1) := by
 have e : swr p u q v s i = (p ++ v.take i) ++ u.getD i default :: ((u.drop (i + 1) ++ q ++ u.take i) ++ v.getD i default :: (v.drop (i + 1) ++ s)) := by
  unfold swr
  rw [drop_here hi, drop_here (l := v) (by omega)]; simp
 rw [e, swx_split (by simp; omega) (by simp; omega)]
 unfold swr
 rw [take_snoc hi, take_snoc (l := v) (by omega)]; simp
omit [Inhabited α] in
theorem swr_zero (p u q v s : List α) : swr p u q v s 0 = p ++ (u ++ (q ++ (v ++ s))) := by simp [swr]
omit [Inhabited α] in
theorem swr_all (p u q v s : List α) {n : Nat} (h : u.length = n) (h' : v.length = n) : swr p u q v s n = p ++ (v ++ (q ++ (u ++ s))) := by
 simp [swr, List.take_of_length_le, List.drop_eq_nil_of_le, h, h']
/-! ### blocks -/
inductive Bk (c : α → α → Int) (n : Nat) : List α → List α → Prop
 | last (l : List α) : l.length ≤ n → Bk c n l (ssort c l)
 | cons (b l s : List α) : b.length = n → Bk c n l s → Bk c n (b ++ l) (ssort c b ++ s)
omit [Inhabited α] in
theorem Bk.len {c : α → α → Int} {n : Nat} {d s : List α} (h : Bk c n d s) : s.length = d.length := by
 induction h with
 | last l _ => rw [ssort_length]
 | cons b l s _ _ ih => simp [ssort_length, ih]
omit [Inhabited α] in
theorem Bk.one {c : α → α → Int} {n : Nat} {d s : List α} (hn : 0 < n) (h : Bk c n d s) (hd : d.length ≤ n) : s = ssort c d := by
 cases h with
 | last _ _ => rfl
 | cons b l s hb hl =>
  have hl0 : l = [] := by
   rw [List.length_append] at hd
   exact List.length_eq_zero_iff.1 (by omega)
  subst hl0
  have := hl.len
  have hs : s = [] := List.length_eq_zero_iff.1 (by simpa using this)
  subst hs
  simp
omit [Inhabited α] in
theorem Bk.take {c : α → α → Int} {n : Nat} {d s : List α} (h : Bk c n d s) (hd : n ≤ d.length) : ∃ b l s', d = b ++ l ∧ s = ssort c b ++ s' ∧ b.length = n ∧ Bk c n l s' := by
 cases h with
 | last _ hl => exact ⟨d, [], [], by simp, by simp, by omega, .last [] (by simp)⟩
 | cons b l s hb hl => exact ⟨b, l, s, rfl, rfl, hb, hl⟩
end
end Go.Proofs.YtcagelfmngmocaaGreatDoor
namespace Go.Proofs.YtcagelfmngmocaaGreatDoor
open Go Go.Ai
set_option linter.unusedSimpArgs false
set_option linter.unusedVariables false
set_option maxHeartbeats 4000000
/-- An event: when, of which kind, of which alarm; whether it becomes active; the number of the act. -/
structure Ev where
 a : Int
 k : Int
 al : Int
 on : Bool
 ac : Int
instance : Inhabited Ev := ⟨⟨0, 0, 0, false, 0⟩⟩
def evS (e : Ev) : List Cel := [.g (.int .i64 e.a), .g (.int .i64 e.k), .g (.int .i64 e.al), .g (.bool e.on), .g (.int .i64 e.ac)]
theorem evS_eq (e : Ev) : evS e = [.g (.int .i64 e.a), .g (.int .i64 e.k), .g (.int .i64 e.al), .g (.bool e.on), .g (.int .i64 e.ac)] := (rfl)
attribute [go_sem] evS_eq
/-- A state: below, active, until, acked. -/
structure Sta where
 bl : Int
 ac : Bool
 un : Int
 ak : Bool
instance : Inhabited Sta := ⟨⟨0, false, 0, false⟩⟩
def staS (e : Sta) : List Cel := [.g (.int .i64 e.bl), .g (.bool e.ac), .g (.int .i64 e.un), .g (.bool e.ak)]
theorem staS_eq (e : Sta) : staS e = [.g (.int .i64 e.bl), .g (.bool e.ac), .g (.int .i64 e.un), .g (.bool e.ak)] := (rfl)
attribute [go_sem] staS_eq
/-- What is told. -/
structure Std where
 al : ByteArray
 st : Int
 si : Int
instance : Inhabited Std := ⟨⟨emp, 0, 0⟩⟩
def stdS (e : Std) : List Cel := [.g (.string e.al), .g (.int .i64 e.st), .g (.int .i64 e.si)]
theorem stdS_eq (e : Std) : stdS e = [.g (.string e.al), .g (.int .i64 e.st), .g (.int .i64 e.si)] := (rfl)
attribute [go_sem] stdS_eq
/-! ### the order of events -/
def cmpE (a : List Opr) (x y : Ev) : Int :=
 if orSp [sd y.a x.a, sd y.k x.k] ≠ 0 ∨ x.k ≠ 2 then orSp [orSp [sd y.a x.a, sd y.k x.k], sd y.al x.al] else cmpO (a.getD x.ac.toNat default) (a.getD y.ac.toNat default)
def ltO (x y : Opr) : Prop := ltS x.b y.b ∨ (x.b = y.b ∧ x.no < y.no)
theorem cmpO_lt (x y : Opr) : cmpO x y < 0 ↔ ltO x y := by
 unfold cmpO cmpI ltO
 rcases cmpS_is x.b y.b with ⟨h1, h2⟩ | ⟨h1, h2⟩ | ⟨h1, h2⟩
 ·rw [if_neg (by omega)]
  have h3 : ¬ltS x.b y.b := by rw [h2]; exact ltS_irr _
  constructor
  ·intro h
   refine .inr ⟨h2, ?_⟩
   split at h
   ·assumption
   ·split at h <;> omega
  ·rintro (h | h)
   ·exact absurd h h3
   ·rw [if_pos h.2]; omega
 ·rw [if_pos (by omega), h1]
  exact ⟨fun _ => .inl h2, fun _ => by omega⟩
 ·rw [if_pos (by omega), h1]
  refine ⟨fun h => by omega, ?_⟩
  rintro (h | h)
  ·exact absurd h2 (ltS_asymm h)
  ·rw [h.1] at h2; exact absurd h2 (ltS_irr _)
theorem ltO_irr (x : Opr) : ¬ltO x x := by
 rintro (h | h)
 ·exact ltS_irr _ h
 ·omega
theorem ltO_tr {x y z : Opr} (h1 : ltO x y) (h2 : ltO y z) : ltO x z := by
 rcases h1 with h1 | ⟨h1, h3⟩ <;> rcases h2 with h2 | ⟨h2, h4⟩
 ·exact .inl (ltS_trans h1 h2)
 ·exact .inl (h2 ▸ h1)
 ·exact .inl (h1 ▸ h2)
 ·exact .inr ⟨h1.trans h2, by omega⟩
theorem ltO_co {x z : Opr} (y : Opr) (h : ltO x z) : ltO x y ∨ ltO y z := by
 rcases ltS_or x.b y.b with h1 | h1 | h1
 ·exact .inl (.inl h1)
 ·rcases h with h | ⟨h, h2⟩
  ·exact .inr (.inl (h1 ▸ h))
  ·by_cases h3 : x.no < y.no
   ·exact .inl (.inr ⟨h1, h3⟩)
   ·exact .inr (.inr ⟨h1 ▸ h, by omega⟩)
 ·rcases h with h | ⟨h, h2⟩
  ·exact .inr (.inl (ltS_trans h1 h))
  ·exact .inr (.inl (h ▸ h1))
def ltE (a : List Opr) (x y : Ev) : Prop := x.a < y.a ∨ (x.a = y.a ∧ (x.k < y.k ∨ (x.k = y.k ∧ ((x.k ≠ 2 ∧ x.al < y.al) ∨ (x.k = 2 ∧ ltO (a.getD x.ac.toNat default) (a.getD y.ac.toNat default))))))
theorem orSp2 (x y : Int) : orSp [x, y] = if x ≠ 0 then x else y := by
 unfold orSp orSp orSp
 split
 ·rfl
 ·split <;> omega
theorem cmpE_lt (a : List Opr) (x y : Ev) : cmpE a x y < 0 ↔ ltE a x y := by
 unfold cmpE ltE
 rw [orSp2, orSp2]
 rcases sd_cases y.a x.a with ⟨h1, h2⟩ | ⟨h1, h2⟩ | ⟨h1, h2⟩
 ·rw [h2]
  simp only [ne_eq, show ¬((-1 : Int) = 0) by omega, not_false_eq_true, if_true, true_or]
  exact ⟨fun _ => .inl h1, fun _ => by omega⟩
 ·rw [h2]
  simp only [ne_eq, show ¬((1 : Int) = 0) by omega, not_false_eq_true, if_true, true_or]
  exact ⟨fun h => by omega, fun h => by omega⟩
 ·rw [h2]
  simp only [ne_eq, not_true_eq_false, if_false]
  rcases sd_cases y.k x.k with ⟨h3, h4⟩ | ⟨h3, h4⟩ | ⟨h3, h4⟩
  ·rw [h4]
   simp only [show ¬((-1 : Int) = 0) by omega, not_false_eq_true, if_true, true_or]
   exact ⟨fun _ => .inr ⟨h1, .inl h3⟩, fun _ => by omega⟩
  ·rw [h4]
   simp only [show ¬((1 : Int) = 0) by omega, not_false_eq_true, if_true, true_or]
   exact ⟨fun h => by omega, fun h => by omega⟩
  ·rw [h4]
   simp only [not_true_eq_false, false_or, if_false]
   by_cases h5 : x.k = 2
   ·rw [if_neg (by simpa using h5), cmpO_lt]
    exact ⟨fun h => .inr ⟨h1, .inr ⟨h3, .inr ⟨h5, h⟩⟩⟩, fun h => by
     rcases h with h | ⟨_, h | ⟨_, h | h⟩⟩
     ·omega
     ·omega
     ·exact absurd h5 h.1
     ·exact h.2⟩
   ·rw [if_pos h5]
    rcases sd_cases y.al x.al with ⟨h6, h7⟩ | ⟨h6, h7⟩ | ⟨h6, h7⟩ <;> rw [h7]
    ·exact ⟨fun _ => .inr ⟨h1, .inr ⟨h3, .inl ⟨h5, h6⟩⟩⟩, fun _ => by omega⟩
    ·refine ⟨fun h => by omega, fun h => ?_⟩
     rcases h with h | ⟨_, h | ⟨_, h | h⟩⟩
     ·omega
     ·omega
     ·omega
     ·exact absurd h.1 h5
    ·refine ⟨fun h => by omega, fun h => ?_⟩
     rcases h with h | ⟨_, h | ⟨_, h | h⟩⟩
     ·omega
     ·omega
     ·omega
     ·exact absurd h.1 h5
theorem ltE_co {a : List Opr} {x z : Ev} (y : Ev) (h : ltE a x z) : ltE a x y ∨ ltE a y z := by
 unfold ltE at *
 rcases (show x.a < y.a ∨ y.a < x.a ∨ x.a = y.a by omega) with h1 | h1 | h1
 ·exact .inl (.inl h1)
 ·exact .inr (.inl (by rcases h with h | h <;> omega))
 ·rcases h with h | ⟨h, h'⟩
  ·exact .inr (.inl (by omega))
  ·rcases (show x.k < y.k ∨ y.k < x.k ∨ x.k = y.k by omega) with h2 | h2 | h2
   ·exact .inl (.inr ⟨h1, .inl h2⟩)
   ·exact .inr (.inr ⟨by omega, .inl (by rcases h' with h' | h' <;> omega)⟩)
   ·rcases h' with h' | ⟨h3, h' | ⟨h4, h'⟩⟩
    ·exact .inr (.inr ⟨by omega, .inl (by omega)⟩)
    ·by_cases h5 : x.al < y.al
     ·exact .inl (.inr ⟨h1, .inr ⟨h2, .inl ⟨h'.1, h5⟩⟩⟩)
     ·exact .inr (.inr ⟨by omega, .inr ⟨by omega, .inl ⟨by omega, by omega⟩⟩⟩)
    ·rcases ltO_co (a.getD y.ac.toNat default) h' with h5 | h5
     ·exact .inl (.inr ⟨h1, .inr ⟨h2, .inr ⟨h4, h5⟩⟩⟩)
     ·exact .inr (.inr ⟨by omega, .inr ⟨by omega, .inr ⟨by omega, h5⟩⟩⟩)
theorem ltE_tr {a : List Opr} {x y z : Ev} (h1 : ltE a x y) (h2 : ltE a y z) : ltE a x z := by
 unfold ltE at *
 rcases h1 with h1 | ⟨h1, h3⟩ <;> rcases h2 with h2 | ⟨h2, h4⟩
 ·exact .inl (by omega)
 ·exact .inl (by omega)
 ·exact .inl (by omega)
 ·refine .inr ⟨by omega, ?_⟩
  rcases h3 with h3 | ⟨h3, h5⟩ <;> rcases h4 with h4 | ⟨h4, h6⟩
  ·exact .inl (by omega)
  ·exact .inl (by omega)
  ·exact .inl (by omega)
  ·refine .inr ⟨by omega, ?_⟩
   rcases h5 with h5 | ⟨h5, h7⟩ <;> rcases h6 with h6 | ⟨h6, h8⟩
   ·exact .inl ⟨h5.1, by omega⟩
   ·exact absurd (h3.trans h6) h5.1
   ·exact absurd (h3.symm.trans h5) h6.1
   ·exact .inr ⟨h5, ltO_tr h7 h8⟩
theorem ltE_irr {a : List Opr} (x : Ev) : ¬ltE a x x := by
 rintro (h | ⟨_, h | ⟨_, h | h⟩⟩)
 ·omega
 ·omega
 ·omega
 ·exact ltO_irr _ h.2
theorem evSwo (a : List Opr) : Swo (fun _ => True) (cmpE a) where
 irr x _ h := ltE_irr x ((cmpE_lt a x x).1 h)
 tr x y z _ _ _ h1 h2 := (cmpE_lt a x z).2 (ltE_tr ((cmpE_lt a x y).1 h1) ((cmpE_lt a y z).1 h2))
 ntr x y z _ _ _ h1 h2 h3 := by
  rcases ltE_co y ((cmpE_lt a x z).1 h3) with h | h
  ·exact h1 ((cmpE_lt a x y).2 h)
  ·exact h2 ((cmpE_lt a y z).2 h)
/-! ### all events -/
/-- The samples of a tag. -/
def samO (s : List Ser) (tag : ByteArray) : List Smp := if 0 ≤ idxG (fun x : Ser => decide (x.t = tag)) 0 s then (s.getD (idxG (fun x : Ser => decide (x.t = tag)) 0 s).toNat default).l else []
def winsA (s : List Ser) (x : Alm) : List (Int × Int) := actW x.kd x.lim x.db x.on x.off 345686400000 (samO s x.t)
def evA (s : List Ser) (i : Int) (x : Alm) : List Ev := (winsA s x).flatMap fun v => [⟨v.1, 0, i, true, 0⟩, ⟨v.2, 0, i, false, 0⟩]
def evB (l : List Alm) (k : Int) (x : Opr) : List Ev := ⟨x.at_, 2, idxA l x.al, false, k⟩ :: if x.kd = 2 ∧ 0 ≤ idxA l x.al then [⟨x.un, 1, idxA l x.al, false, 0⟩] else []
def evAs (s : List Ser) : Int → List Alm → List Ev
 | _, [] => []
 | i, x :: r => evA s i x ++ evAs s (i + 1) r
def evBs (l : List Alm) : Int → List Opr → List Ev
 | _, [] => []
 | k, x :: r => evB l k x ++ evBs l (k + 1) r
def evs0 (l : List Alm) (s : List Ser) (a : List Opr) : List Ev := evAs s 0 l ++ evBs l 0 a
def evs (l : List Alm) (s : List Ser) (a : List Opr) : List Ev := ssort (cmpE a) (evs0 l s a)
/-! ### states -/
def sta0 : Sta := ⟨1, false, 0, false⟩
def actX (x : Sta) (a : Opr) : Sta × Bool :=
 if a.kd = 2 then ({ x with un := a.un }, true) else if a.kd = 3 then ({ x with un := 0 }, decide (x.un > 0)) else
 if x.bl = 2 then ({ x with bl := 3, ak := true }, true) else if x.bl = 4 then ({ x with bl := 1 }, true) else (x, false)
def turnX (lt : Bool) (x : Sta) (e : Ev) : Sta :=
 if e.k = 1 then (if x.un = e.a then { x with un := 0 } else x) else if e.on = true then { x with ac := true, ak := false, bl := 2 } else { x with ac := false, bl := if lt = true ∧ x.ak = false then 4 else 1 }
structure Sit where
 st : List Sta
 td : List Std
 ig : List Int
 out : List Std
def appE (l : List Alm) (a : List Opr) (e : Ev) (s : Sit) : Sit :=
 if e.k = 2 then
  if e.al < 0 then { s with ig := s.ig ++ [e.ac] } else
   { s with st := s.st.set e.al.toNat (actX (s.st.getD e.al.toNat default) (a.getD e.ac.toNat default)).1, ig := if (actX (s.st.getD e.al.toNat default) (a.getD e.ac.toNat default)).2 = true then s.ig else s.ig ++ [e.ac] }
 else { s with st := s.st.set e.al.toNat (turnX (l.getD e.al.toNat default).lt (s.st.getD e.al.toNat default) e) }
def upA (l : List Alm) : List (List Int) := l.map fun x => parA l (l.length + 1) x
def repX (up : List (List Int)) (st : List Sta) (i : Nat) : Int :=
 if (up.getD i []).any (fun k => (st.getD k.toNat default).ac) = true then 6 else if (st.getD i default).un > 0 then 5 else (st.getD i default).bl
/-- From alarm i on what has changed is told. -/
def rptE (up : List (List Int)) (at_ : Int) : Nat → Nat → Sit → Sit
 | 0, _, s => s
 | n + 1, i, s => rptE up at_ n (i + 1) (if repX up s.st i ≠ (s.td.getD i default).st then { s with td := s.td.set i ⟨(s.td.getD i default).al, repX up s.st i, at_⟩, out := s.out ++ [⟨(s.td.getD i default).al, repX up s.st i, at_⟩] } else s)
def hdAt : List Ev → Int → Bool
 | [], _ => false
 | e :: _, t => decide (e.a = t)
def runE (l : List Alm) (a : List Opr) (to : Int) : List Ev → Sit → Sit
 | [], s => s
 | e :: r, s => if to < e.a then s else runE l a to r (if hdAt r e.a = true then appE l a e s else rptE (upA l) e.a l.length 0 (appE l a e s))
def sit0 (l : List Alm) : Sit := ⟨l.map fun _ => sta0, l.map fun x => ⟨x.k, 1, 0⟩, [], []⟩
def runA (l : List Alm) (s : List Ser) (a : List Opr) (to : Int) : Sit := runE l a to (evs l s a) (sit0 l)
end Go.Proofs.YtcagelfmngmocaaGreatDoor

/- Stable sorting on lists: merging, what a merge of parts is, insertion by merging. Plain Lean. -/
import Derived.Test.YtbhgndiboeppeaaGreatDoorAiE
set_option linter.all false
set_option maxHeartbeats 4000000
namespace Go.Proofs.YtbhgndiboeppeaaGreatDoor
open Go Go.Ai
section
variable {α : Type}
abbrev ltC (c : α → α → Int) (x y : α) : Prop := c x y < 0
structure Swo (p : α → Prop) (c : α → α → Int) : Prop where
 irr : ∀ x, p x → ¬ltC c x x
 tr : ∀ x y z, p x → p y → p z → ltC c x y → ltC c y z → ltC c x z
 ntr : ∀ x y z, p x → p y → p z → ¬ltC c x y → ¬ltC c y z → ¬ltC c x z
def mrg (c : α → α → Int) : List α → List α → List α
 | [], l => l
 | l, [] => l
 | x :: xs, y :: ys => if c y x < 0 then y :: mrg c (x :: xs) ys else x :: mrg c xs (y :: ys)
termination_by l m => l.length + m.length
theorem n5 (c : α → α → Int) (l : List α) : mrg c [] l = l := by unfold mrg; cases l <;> rfl
theorem m4 (c : α → α → Int) (l : List α) : mrg c l [] = l := by cases l <;> (unfold mrg; rfl)
theorem F0 {c : α → α → Int} {x y : α} {xs ys : List α} (h : c y x < 0) : mrg c (x :: xs) (y :: ys) = y :: mrg c (x :: xs) ys := by
 rw [mrg, if_pos h]
theorem G7 {c : α → α → Int} {x y : α} {xs ys : List α} (h : ¬c y x < 0) : mrg c (x :: xs) (y :: ys) = x :: mrg c xs (y :: ys) := by
 rw [mrg, if_neg h]
theorem a6y (c : α → α → Int) : ∀ (n : Nat) (l m : List α), l.length + m.length = n → (mrg c l m).length = l.length + m.length
 | n, [], m, _ => by rw [n5]; simp
 | n, l, [], _ => by rw [m4]; simp
 | 0, x :: xs, y :: ys, h => by simp at h
 | n + 1, x :: xs, y :: ys, h => by
  simp only [List.length_cons] at h
  by_cases hc : c y x < 0
  ·rw [F0 hc, List.length_cons, a6y c n _ _ (by simp only [List.length_cons]; omega)]; simp only [List.length_cons]; omega
  ·rw [G7 hc, List.length_cons, a6y c n _ _ (by simp only [List.length_cons]; omega)]; simp only [List.length_cons]; omega
theorem F5 (c : α → α → Int) (l m : List α) : (mrg c l m).length = l.length + m.length := a6y c _ l m rfl
theorem a3L (c : α → α → Int) : ∀ (n : Nat) (l m : List α), l.length + m.length = n → ∀ z, z ∈ mrg c l m ↔ z ∈ l ∨ z ∈ m
 | n, [], m, _, z => by rw [n5]; simp
 | n, l, [], _, z => by rw [m4]; simp
 | 0, x :: xs, y :: ys, h, z => by simp at h
 | n + 1, x :: xs, y :: ys, h, z => by
  simp only [List.length_cons] at h
  by_cases hc : c y x < 0
  ·rw [F0 hc, List.mem_cons, a3L c n _ _ (by simp only [List.length_cons]; omega)]
   all_goals grind
  ·rw [G7 hc, List.mem_cons, a3L c n _ _ (by simp only [List.length_cons]; omega)]
   grind
theorem mrg_mem {c : α → α → Int} {l m : List α} {z : α} : z ∈ mrg c l m ↔ z ∈ l ∨ z ∈ m := a3L c _ l m rfl z
theorem R1 (c : α → α → Int) (u2 v2 : List α) : ∀ (n : Nat) (u1 v1 : List α), u1.length + v1.length = n → (∀ y ∈ v1, ∀ x ∈ u2, ltC c y x) → (∀ y ∈ v2, ∀ x ∈ u1, ¬ltC c y x) →
  mrg c (u1 ++ u2) (v1 ++ v2) = mrg c u1 v1 ++ mrg c u2 v2
 | n, [], [], _, _, _ => by rw [n5]; rfl
 | n, [], y :: v1, h, h1, h2 => by
  cases u2 with
  | nil => rw [List.append_nil, n5, n5, n5]
  | cons x u2 =>
   have h3 := R1 c (x :: u2) v2 (n - 1) [] v1 (by simp only [List.length_cons, List.length_nil] at h ⊢; omega) (fun z hz => h1 z (by simp [hz])) (fun z hz w hw => by simp at hw)
   rw [List.nil_append] at h3 ⊢
   rw [List.cons_append, F0 (h1 y (by simp) x (by simp)), h3, n5, n5]; rfl
 | n, x :: u1, [], h, h1, h2 => by
  cases v2 with
  | nil => rw [List.append_nil, m4, m4, m4]
  | cons y v2 =>
   have h3 := R1 c u2 (y :: v2) (n - 1) u1 [] (by simp only [List.length_cons, List.length_nil] at h ⊢; omega) (fun z hz => by simp at hz) (fun z hz w hw => h2 z hz w (by simp [hw]))
   rw [List.nil_append] at h3 ⊢
   rw [List.cons_append, G7 (h2 y (by simp) x (by simp)), h3, m4, m4]; rfl
 | 0, x :: u1, y :: v1, h, _, _ => by simp at h
 | n + 1, x :: u1, y :: v1, h, h1, h2 => by
  simp only [List.length_cons] at h
  rw [List.cons_append, List.cons_append]
  by_cases hc : c y x < 0
  ·rw [F0 hc, F0 hc, ← List.cons_append, R1 c u2 v2 n (x :: u1) v1 (by simp only [List.length_cons]; omega) (fun z hz => h1 z (by simp [hz])) h2]; rfl
  ·rw [G7 hc, G7 hc, ← List.cons_append, R1 c u2 v2 n u1 (y :: v1) (by simp only [List.length_cons]; omega) h1 (fun z hz w hw => h2 z hz w (by simp [hw]))]; rfl
theorem a1S {c : α → α → Int} {u1 u2 v1 v2 : List α} (h1 : ∀ y ∈ v1, ∀ x ∈ u2, ltC c y x) (h2 : ∀ y ∈ v2, ∀ x ∈ u1, ¬ltC c y x) :
  mrg c (u1 ++ u2) (v1 ++ v2) = mrg c u1 v1 ++ mrg c u2 v2 := R1 c u2 v2 _ u1 v1 rfl h1 h2
theorem M9 {p : α → Prop} {c : α → α → Int} (h : Swo p c) : ∀ (n : Nat) (a b d : List α), a.length + b.length + d.length = n → (∀ x ∈ a, p x) → (∀ x ∈ b, p x) → (∀ x ∈ d, p x) → mrg c (mrg c a b) d = mrg c a (mrg c b d)
 | n, [], b, d, _, _, _, _ => by rw [n5, n5]
 | n, a, [], d, _, _, _, _ => by rw [n5, m4]
 | n, a, b, [], _, _, _, _ => by rw [m4, m4]
 | 0, x :: a, y :: b, z :: d, hn, _, _, _ => by simp at hn
 | n + 1, x :: a, y :: b, z :: d, hn, ha, hb, hd => by
  simp only [List.length_cons] at hn
  have px := ha x (by simp)
  have py := hb y (by simp)
  have pz := hd z (by simp)
  have ha' : ∀ x ∈ a, p x := fun x hx => ha x (by simp [hx])
  have hb' : ∀ x ∈ b, p x := fun x hx => hb x (by simp [hx])
  have hd' : ∀ x ∈ d, p x := fun x hx => hd x (by simp [hx])
  by_cases h1 : c y x < 0
  ·by_cases h2 : c z y < 0
   ·have h3 : c z x < 0 := h.tr z y x pz py px h2 h1
    have e := M9 h n (x :: a) (y :: b) d (by simp only [List.length_cons]; omega) ha hb hd'
    rw [F0 h1] at e ⊢
    rw [F0 h2, F0 h2, F0 h3, e]
   ·have e := M9 h n (x :: a) b (z :: d) (by simp only [List.length_cons]; omega) ha hb' hd
    rw [F0 h1, G7 h2, G7 h2, F0 h1, e]
  ·by_cases h2 : c z x < 0
   ·have h3 : c z y < 0 := by
     by_cases h3 : c z y < 0
     ·exact h3
     ·exact absurd h2 (h.ntr z y x pz py px h3 h1)
    have e := M9 h n (x :: a) (y :: b) d (by simp only [List.length_cons]; omega) ha hb hd'
    rw [G7 h1] at e ⊢
    rw [F0 h2, F0 h3, F0 h2, e]
   ·have e := M9 h n a (y :: b) (z :: d) (by simp only [List.length_cons]; omega) ha' hb hd
    rw [G7 h1, G7 h2, e]
    by_cases h3 : c z y < 0
    ·rw [F0 h3, G7 h2]
    ·rw [G7 h3, G7 h1]
theorem b2m {p : α → Prop} {c : α → α → Int} (h : Swo p c) {a b d : List α} (ha : ∀ x ∈ a, p x) (hb : ∀ x ∈ b, p x) (hd : ∀ x ∈ d, p x) : mrg c (mrg c a b) d = mrg c a (mrg c b d) :=
 M9 h _ a b d rfl ha hb hd
def l7 (c : α → α → Int) (l : List α) : List α := l.foldl (fun s y => mrg c s [y]) []
theorem M8 (c : α → α → Int) (l : List α) (y : α) : l7 c (l ++ [y]) = mrg c (l7 c l) [y] := by
 unfold l7; rw [List.foldl_append]; rfl
theorem a3P (c : α → α → Int) : ∀ (l s : List α), (∀ z, z ∈ l.foldl (fun s y => mrg c s [y]) s ↔ z ∈ s ∨ z ∈ l) ∧ (l.foldl (fun s y => mrg c s [y]) s).length = s.length + l.length
 | [], s => by simp
 | y :: l, s => by
  obtain ⟨h1, h2⟩ := a3P c l (mrg c s [y])
  rw [List.foldl_cons]
  refine ⟨fun z => ?_, ?_⟩
  ·rw [h1, mrg_mem]; simp [or_assoc]
  ·rw [h2, F5]; simp only [List.length_cons, List.length_nil]; omega
theorem ssort_mem {c : α → α → Int} {l : List α} {z : α} : z ∈ l7 c l ↔ z ∈ l := by rw [l7, (a3P c l []).1]; simp
theorem f0 (c : α → α → Int) (l : List α) : (l7 c l).length = l.length := by rw [l7, (a3P c l []).2]; simp
theorem Y9 {p : α → Prop} {c : α → α → Int} (h : Swo p c) (a : List α) (ha : ∀ x ∈ a, p x) : ∀ (n : Nat) (b : List α), b.length = n → (∀ x ∈ b, p x) → l7 c (a ++ b) = mrg c (l7 c a) (l7 c b)
 | 0, b, hb, _ => by
  have : b = [] := List.length_eq_zero_iff.1 hb
  subst this
  rw [List.append_nil, show l7 c ([] : List α) = [] from rfl, m4]
 | n + 1, b, hb, hp => by
  have hne : b ≠ [] := fun he => by subst he; simp at hb
  obtain ⟨b', y, rfl⟩ : ∃ b' y, b = b' ++ [y] := ⟨b.dropLast, b.getLast hne, (List.dropLast_concat_getLast hne).symm⟩
  rw [← List.append_assoc, M8, M8, Y9 h a ha n b' (by simpa using hb) (fun x hx => hp x (by simp [hx]))]
  exact b2m h (fun x hx => ha x (ssort_mem.1 hx)) (fun x hx => hp x (List.mem_append_left _ (ssort_mem.1 hx))) (fun x hx => hp x (List.mem_append_right _ hx))
theorem L3 {p : α → Prop} {c : α → α → Int} (h : Swo p c) {a b : List α} (ha : ∀ x ∈ a, p x) (hb : ∀ x ∈ b, p x) : l7 c (a ++ b) = mrg c (l7 c a) (l7 c b) := Y9 h a ha _ b rfl hb
def Ord (c : α → α → Int) (l : List α) : Prop := l.Pairwise fun x y => ¬ltC c y x
theorem a2Z {p : α → Prop} {c : α → α → Int} (h : Swo p c) : ∀ (n : Nat) (l m : List α), l.length + m.length = n → (∀ x ∈ l, p x) → (∀ x ∈ m, p x) → Ord c l → Ord c m → Ord c (mrg c l m)
 | n, [], m, _, _, _, _, hm => by rw [n5]; exact hm
 | n, l, [], _, _, _, hl, _ => by rw [m4]; exact hl
 | 0, x :: xs, y :: ys, hn, _, _, _, _ => by simp at hn
 | n + 1, x :: xs, y :: ys, hn, pl, pm, hl, hm => by
  simp only [List.length_cons] at hn
  have px := pl x (by simp)
  have py := pm y (by simp)
  have hl' := List.pairwise_cons.1 hl
  have hm' := List.pairwise_cons.1 hm
  by_cases hc : c y x < 0
  ·rw [F0 hc]
   refine List.pairwise_cons.2 ⟨fun z hz => ?_, a2Z h n _ _ (by simp only [List.length_cons]; omega) pl (fun z hz => pm z (by simp [hz])) hl hm'.2⟩
   rcases mrg_mem.1 hz with hz | hz
   ·have pz := pl z hz
    rcases List.mem_cons.1 hz with rfl | hz
    ·intro h1; exact h.irr y py (h.tr y z y py pz py hc h1)
    ·intro h1; exact hl'.1 z hz (h.tr z y x pz py px h1 hc)
   ·exact hm'.1 z hz
  ·rw [G7 hc]
   refine List.pairwise_cons.2 ⟨fun z hz => ?_, a2Z h n _ _ (by simp only [List.length_cons]; omega) (fun z hz => pl z (by simp [hz])) pm hl'.2 hm⟩
   rcases mrg_mem.1 hz with hz | hz
   ·exact hl'.1 z hz
   ·have pz := pm z hz
    rcases List.mem_cons.1 hz with rfl | hz
    ·exact hc
    ·exact h.ntr z y x pz py px (hm'.1 z hz) hc
theorem b2P {p : α → Prop} {c : α → α → Int} (h : Swo p c) {l m : List α} (pl : ∀ x ∈ l, p x) (pm : ∀ x ∈ m, p x) (hl : Ord c l) (hm : Ord c m) : Ord c (mrg c l m) := a2Z h _ l m rfl pl pm hl hm
theorem a0v {p : α → Prop} {c : α → α → Int} (h : Swo p c) : ∀ (l s : List α), (∀ x ∈ s, p x) → (∀ x ∈ l, p x) → Ord c s → Ord c (l.foldl (fun s y => mrg c s [y]) s)
 | [], s, _, _, hs => hs
 | y :: l, s, ps, pl, hs => by
  rw [List.foldl_cons]
  have py := pl y (by simp)
  refine a0v h l _ (fun x hx => ?_) (fun x hx => pl x (by simp [hx])) (b2P h ps (fun x hx => by simp at hx; subst hx; exact py) hs (List.pairwise_singleton _ _))
  rcases mrg_mem.1 hx with hx | hx
  ·exact ps x hx
  ·grind
theorem v6 {p : α → Prop} {c : α → α → Int} (h : Swo p c) {l : List α} (pl : ∀ x ∈ l, p x) : Ord c (l7 c l) := a0v h l [] (fun x hx => by simp at hx) pl List.Pairwise.nil
theorem a0J {c : α → α → Int} {a b : List α} {y : α} (h1 : ∀ x ∈ a, ¬ltC c y x) (h2 : ∀ x ∈ b, ltC c y x) : mrg c (a ++ b) [y] = a ++ y :: b := by
 have := a1S (c := c) (u1 := a) (u2 := b) (v1 := []) (v2 := [y]) (fun z hz => by simp at hz) (fun z hz x hx => by simp at hz; subst hz; exact h1 x hx)
 rw [List.nil_append] at this
 rw [this, m4]
 congr 1
 cases b with
 | nil => rw [n5]
 | cons x b => rw [F0 (h2 x (by simp)), m4]
theorem b3c {c : α → α → Int} {a b : List α} {x : α} (h1 : ∀ y ∈ a, ltC c y x) (h2 : ∀ y ∈ b, ¬ltC c y x) : mrg c [x] (a ++ b) = a ++ x :: b := by
 have := a1S (c := c) (u1 := []) (u2 := [x]) (v1 := a) (v2 := b) (fun z hz w hw => by simp at hw; subst hw; exact h1 z hz) (fun z hz w hw => by simp at hw)
 rw [List.nil_append] at this
 rw [this, n5]
 congr 1
 cases b with
 | nil => rw [m4]
 | cons y b => rw [G7 (h2 y (by simp)), n5]
end
section
variable {α : Type} [Inhabited α]
theorem a0C {c : α → α → Int} {l : List α} (h : Ord c l) {i j : Nat} (hij : i < j) (hj : j < l.length) : ¬ltC c (l.getD j default) (l.getD i default) := by
 have h2 := List.pairwise_iff_getElem.1 h i j (by omega) hj hij
 grind
theorem x6 {l : List α} {i : Nat} (h : i < l.length) : l.getD i default ∈ l := by
 grind
theorem M7 {l : List α} {x : α} (h : x ∈ l) : ∃ i, i < l.length ∧ l.getD i default = x := by
 obtain ⟨i, hi, rfl⟩ := List.mem_iff_getElem.1 h
 exact ⟨i, hi, by rw [List.getD_eq_getElem?_getD, List.getElem?_eq_getElem hi]; rfl⟩
theorem T6 {l : List α} {i n : Nat} (h : i < n) : (l.take n).getD i default = l.getD i default := by
 grind
theorem S7 {l : List α} {i n : Nat} : (l.drop n).getD i default = l.getD (n + i) default := by
 grind
theorem b3m {p : α → Prop} {c : α → α → Int} (h : Swo p c) {u v : List α} (pu : ∀ x ∈ u, p x) (pv : ∀ x ∈ v, p x) (ou : Ord c u) (ov : Ord c v) {i j : Nat} (hi : i ≤ u.length) (hj : j ≤ v.length)
  (h1 : i = 0 ∨ j = v.length ∨ ¬ltC c (v.getD j default) (u.getD (i - 1) default)) (h2 : i = u.length ∨ j = 0 ∨ ltC c (v.getD (j - 1) default) (u.getD i default)) :
  mrg c u v = mrg c (u.take i) (v.take j) ++ mrg c (u.drop i) (v.drop j) := by
 have := a1S (c := c) (u1 := u.take i) (u2 := u.drop i) (v1 := v.take j) (v2 := v.drop j) (fun y hy x hx => ?_) (fun y hy x hx => ?_)
 ·simp_all
 ·obtain ⟨k, hk, rfl⟩ := M7 hy
  obtain ⟨m, hm, rfl⟩ := M7 hx
  rw [List.length_take] at hk
  rw [List.length_drop] at hm
  rw [T6 (by omega), S7]
  have h3 : ltC c (v.getD (j - 1) default) (u.getD i default) := by rcases h2 with h2 | h2 | h2 <;> first | omega | exact h2
  have p1 := pv _ (x6 (l := v) (i := k) (by omega))
  have p2 := pv _ (x6 (l := v) (i := j - 1) (by omega))
  have p3 := pu _ (x6 (l := u) (i := i) (by omega))
  have p4 := pu _ (x6 (l := u) (i := i + m) (by omega))
  have h4 : ¬ltC c (v.getD (j - 1) default) (v.getD k default) := by
   by_cases e : k = j - 1
   ·rw [e]; exact h.irr _ p2
   ·exact a0C ov (by omega) (by omega)
  have h5 : ¬ltC c (u.getD (i + m) default) (u.getD i default) := by
   by_cases e : m = 0
   ·rw [e]; exact h.irr _ p3
   ·exact a0C ou (by omega) (by omega)
  by_cases h6 : ltC c (v.getD k default) (u.getD (i + m) default)
  ·exact h6
  ·exact absurd h3 (h.ntr _ _ _ p2 p1 p3 h4 (h.ntr _ _ _ p1 p4 p3 h6 h5))
 ·obtain ⟨k, hk, rfl⟩ := M7 hy
  obtain ⟨m, hm, rfl⟩ := M7 hx
  rw [List.length_take] at hm
  rw [List.length_drop] at hk
  rw [T6 (by omega), S7]
  have h3 : ¬ltC c (v.getD j default) (u.getD (i - 1) default) := by rcases h1 with h1 | h1 | h1 <;> first | omega | exact h1
  have p1 := pv _ (x6 (l := v) (i := j + k) (by omega))
  have p2 := pv _ (x6 (l := v) (i := j) (by omega))
  have p3 := pu _ (x6 (l := u) (i := i - 1) (by omega))
  have p4 := pu _ (x6 (l := u) (i := m) (by omega))
  have h4 : ¬ltC c (v.getD (j + k) default) (v.getD j default) := by
   by_cases e : k = 0
   ·rw [e]; exact h.irr _ p2
   ·exact a0C ov (by omega) (by omega)
  have h5 : ¬ltC c (u.getD (i - 1) default) (u.getD m default) := by
   by_cases e : m = i - 1
   ·rw [e]; exact h.irr _ p3
   ·exact a0C ou (by omega) (by omega)
  exact h.ntr _ _ _ p1 p2 p4 h4 (h.ntr _ _ _ p2 p3 p4 h3 h5)
/-! ### swapping -/
def swx (l : List α) (i j : Nat) : List α := (l.set i (l.getD j default)).set j (l.getD i default)
theorem T5 (p s : List α) (x : α) : (p ++ x :: s).getD p.length default = x := by simp [List.getD_eq_getElem?_getD]
theorem R8 {p q s : List α} {x y : α} {i j : Nat} (hi : i = p.length) (hj : j = p.length + 1 + q.length) : swx (p ++ x :: (q ++ y :: s)) i j = p ++ y :: (q ++ x :: s) := by
 subst hi
 have e : p ++ x :: (q ++ y :: s) = (p ++ x :: q) ++ y :: s := by simp
 have hj' : j = (p ++ x :: q).length := by simp; omega
 unfold swx
 grind
theorem a3U (l : List α) (i j : Nat) (hij : i ≠ j) : swx l i j = (l.set j (l.getD i default)).set i (l.getD j default) := by
 unfold swx; rw [List.set_comm _ _ hij]
theorem b3R (l : List α) (i j : Nat) (hij : i ≠ j) (hi : i < l.length) (hj : j < l.length) : swx (swx l i j) i j = l := by
 have h1 : (swx l i j).getD j default = l.getD i default := by
  unfold swx
  grind
 have h2 : (swx l i j).getD i default = l.getD j default := by
  unfold swx
  grind
 refine List.ext_getElem? fun k => ?_
 show (((swx l i j).set i ((swx l i j).getD j default)).set j ((swx l i j).getD i default))[k]? = _
 rw [h1, h2]
 simp only [swx, List.getElem?_set, List.length_set]
 all_goals grind
def swr (p u q v s : List α) (i : Nat) : List α := p ++ (v.take i ++ (u.drop i ++ (q ++ (u.take i ++ (v.drop i ++ s)))))
theorem B0 {l : List α} {i : Nat} (h : i < l.length) : l.take (i + 1) = l.take i ++ [l.getD i default] := by
 simp_all
theorem D3 {l : List α} {i : Nat} (h : i < l.length) : l.drop i = l.getD i default :: l.drop (i + 1) := by
 simp_all
omit [Inhabited α] in
theorem b3n (p u q v s : List α) (i : Nat) (h : u.length = v.length) : (swr p u q v s i).length = p.length + u.length + q.length + v.length + s.length := by
 simp [swr]; omega
theorem a7k {p u q v s : List α} {i a b : Nat} (h : u.length = v.length) (hi : i < u.length) (ha : a = p.length + i) (hb : b = p.length + u.length + q.length + i) :
  swx (swr p u q v s i) a b = swr p u q v s (i + 1) := by
 have e : swr p u q v s i = (p ++ v.take i) ++ u.getD i default :: ((u.drop (i + 1) ++ q ++ u.take i) ++ v.getD i default :: (v.drop (i + 1) ++ s)) := by
  unfold swr
  rw [D3 hi, D3 (l := v) (by omega)]; simp
 rw [e, R8 (by simp; omega) (by simp; omega)]
 unfold swr
 rw [B0 hi, B0 (l := v) (by omega)]; simp
omit [Inhabited α] in
theorem a8H (p u q v s : List α) : swr p u q v s 0 = p ++ (u ++ (q ++ (v ++ s))) := by simp [swr]
omit [Inhabited α] in
theorem b2i (p u q v s : List α) {n : Nat} (h : u.length = n) (h' : v.length = n) : swr p u q v s n = p ++ (v ++ (q ++ (u ++ s))) := by
 simp [swr, List.take_of_length_le, List.drop_eq_nil_of_le, h, h']
/-! ### blocks -/
inductive Bk (c : α → α → Int) (n : Nat) : List α → List α → Prop
 | last (l : List α) : l.length ≤ n → Bk c n l (l7 c l)
 | cons (b l s : List α) : b.length = n → Bk c n l s → Bk c n (b ++ l) (l7 c b ++ s)
omit [Inhabited α] in
theorem Bk.len {c : α → α → Int} {n : Nat} {d s : List α} (h : Bk c n d s) : s.length = d.length := by
 induction h with
 | last l _ => rw [f0]
 | cons b l s _ _ ih => simp [f0, ih]
omit [Inhabited α] in
theorem Bk.one {c : α → α → Int} {n : Nat} {d s : List α} (hn : 0 < n) (h : Bk c n d s) (hd : d.length ≤ n) : s = l7 c d := by
 cases h with
 | last _ _ => rfl
 | cons b l s hb hl =>
  have hl0 : l = [] := by
   rw [List.length_append] at hd
   exact List.length_eq_zero_iff.1 (by omega)
  subst hl0
  have := hl.len
  grind
omit [Inhabited α] in
theorem Bk.take {c : α → α → Int} {n : Nat} {d s : List α} (h : Bk c n d s) (hd : n ≤ d.length) : ∃ b l s', d = b ++ l ∧ s = l7 c b ++ s' ∧ b.length = n ∧ Bk c n l s' := by
 cases h with
 | last _ hl => exact ⟨d, [], [], by simp, by simp, by omega, .last [] (by simp)⟩
 | cons b l s hb hl => exact ⟨b, l, s, rfl, rfl, hb, hl⟩
end
end Go.Proofs.YtbhgndiboeppeaaGreatDoor

/- Sorting in place of filtering. -/
import Derived.Test.YtnlafmigfjlnnaaGreatDoorAiE
set_option linter.all false
set_option maxHeartbeats 0
namespace Go.Proofs.YtnlafmigfjlnnaaGreatDoor
open Go Go.Ai
section
variable {α : Type}
abbrev ltC (c : α -> α -> Int) (x y : α) : Prop := c x y < 0
structure Swo (p : α -> Prop) (c : α -> α -> Int) : Prop where
 irr : ∀ x, p x -> ¬ltC c x x
 tr : ∀ x y z, p x -> p y -> p z -> ltC c x y -> ltC c y z -> ltC c x z
 ntr : ∀ x y z, p x -> p y -> p z -> ¬ltC c x y -> ¬ltC c y z -> ¬ltC c x z
def mrg (c : α -> α -> Int) : List α -> List α -> List α
 | [], l => l
 | l, [] => l
 | x :: xs, y :: ys => if c y x < 0 then y :: mrg c (x :: xs) ys else x :: mrg c xs (y :: ys)
termination_by l m => l.length + m.length
theorem n3 (c : α -> α -> Int) (l : List α) : mrg c [] l = l := by unfold mrg; cases l <;> rfl
theorem l9 (c : α -> α -> Int) (l : List α) : mrg c l [] = l := by cases l <;> (unfold mrg; rfl)
theorem D6 {c : α -> α -> Int} {x y : α} {xs ys : List α} (h : c y x < 0) : mrg c (x :: xs) (y :: ys) = y :: mrg c (x :: xs) ys := by
 rw [mrg, if_pos h]
theorem G7 {c : α -> α -> Int} {x y : α} {xs ys : List α} (h : ¬c y x < 0) : mrg c (x :: xs) (y :: ys) = x :: mrg c xs (y :: ys) := by
 rw [mrg, if_neg h]
theorem a7d (c : α -> α -> Int) : ∀ (n : Nat) (l m : List α), l.length + m.length = n -> (mrg c l m).length = l.length + m.length
 | n, [], m, _ => by rw [n3]; simp
 | n, l, [], _ => by rw [l9]; simp
 | 0, x :: xs, y :: ys, h => by simp at h
 | n + 1, x :: xs, y :: ys, h => by
  simp only [List.length_cons] at h
  by_cases hc : c y x < 0
  ·rw [D6 hc, List.length_cons, a7d c n _ _ (by simp only [List.length_cons]; omega)]; simp only [List.length_cons]; omega
  ·rw [G7 hc, List.length_cons, a7d c n _ _ (by simp only [List.length_cons]; omega)]; simp only [List.length_cons]; omega
theorem D8 (c : α -> α -> Int) (l m : List α) : (mrg c l m).length = l.length + m.length := a7d c _ l m rfl
theorem a4k (c : α -> α -> Int) : ∀ (n : Nat) (l m : List α), l.length + m.length = n -> ∀ z, z ∈ mrg c l m ↔ z ∈ l ∨ z ∈ m
 | n, [], m, _, z => by rw [n3]; simp
 | n, l, [], _, z => by rw [l9]; simp
 | 0, x :: xs, y :: ys, h, z => by simp at h
 | n + 1, x :: xs, y :: ys, h, z => by
  simp only [List.length_cons] at h
  by_cases hc : c y x < 0
  ·rw [D6 hc, List.mem_cons, a4k c n _ _ (by simp only [List.length_cons]; omega)]
   all_goals grind
  ·rw [G7 hc, List.mem_cons, a4k c n _ _ (by simp only [List.length_cons]; omega)]
   grind
theorem mrg_mem {c : α -> α -> Int} {l m : List α} {z : α} : z ∈ mrg c l m ↔ z ∈ l ∨ z ∈ m := a4k c _ l m rfl z
theorem P5 (c : α -> α -> Int) (u2 v2 : List α) : ∀ (n : Nat) (u1 v1 : List α), u1.length + v1.length = n -> (∀ y ∈ v1, ∀ x ∈ u2, ltC c y x) -> (∀ y ∈ v2, ∀ x ∈ u1, ¬ltC c y x) ->
  mrg c (u1 ++ u2) (v1 ++ v2) = mrg c u1 v1 ++ mrg c u2 v2
 | n, [], [], _, _, _ => by rw [n3]; rfl
 | n, [], y :: v1, h, h1, h2 => by
  cases u2 with
  | nil => rw [List.append_nil, n3, n3, n3]
  | cons x u2 =>
   have h3 := P5 c (x :: u2) v2 (n - 1) [] v1 (by simp only [List.length_cons, List.length_nil] at h ⊢; omega) (fun z hz => h1 z (by simp [hz])) (fun z hz w hw => by simp at hw)
   rw [List.nil_append] at h3 ⊢
   rw [List.cons_append, D6 (h1 y (by simp) x (by simp)), h3, n3, n3]; rfl
 | n, x :: u1, [], h, h1, h2 => by
  cases v2 with
  | nil => rw [List.append_nil, l9, l9, l9]
  | cons y v2 =>
   have h3 := P5 c u2 (y :: v2) (n - 1) u1 [] (by simp only [List.length_cons, List.length_nil] at h ⊢; omega) (fun z hz => by simp at hz) (fun z hz w hw => h2 z hz w (by simp [hw]))
   rw [List.nil_append] at h3 ⊢
   rw [List.cons_append, G7 (h2 y (by simp) x (by simp)), h3, l9, l9]; rfl
 | 0, x :: u1, y :: v1, h, _, _ => by simp at h
 | n + 1, x :: u1, y :: v1, h, h1, h2 => by
  simp only [List.length_cons] at h
  rw [List.cons_append, List.cons_append]
  by_cases hc : c y x < 0
  ·rw [D6 hc, D6 hc, <- List.cons_append, P5 c u2 v2 n (x :: u1) v1 (by simp only [List.length_cons]; omega) (fun z hz => h1 z (by simp [hz])) h2]; rfl
  ·rw [G7 hc, G7 hc, <- List.cons_append, P5 c u2 v2 n u1 (y :: v1) (by simp only [List.length_cons]; omega) h1 (fun z hz w hw => h2 z hz w (by simp [hw]))]; rfl
theorem a1l {c : α -> α -> Int} {u1 u2 v1 v2 : List α} (h1 : ∀ y ∈ v1, ∀ x ∈ u2, ltC c y x) (h2 : ∀ y ∈ v2, ∀ x ∈ u1, ¬ltC c y x) :
  mrg c (u1 ++ u2) (v1 ++ v2) = mrg c u1 v1 ++ mrg c u2 v2 := P5 c u2 v2 _ u1 v1 rfl h1 h2
theorem L7 {p : α -> Prop} {c : α -> α -> Int} (h : Swo p c) : ∀ (n : Nat) (a b d : List α), a.length + b.length + d.length = n -> (∀ x ∈ a, p x) -> (∀ x ∈ b, p x) -> (∀ x ∈ d, p x) -> mrg c (mrg c a b) d = mrg c a (mrg c b d)
 | n, [], b, d, _, _, _, _ => by rw [n3, n3]
 | n, a, [], d, _, _, _, _ => by rw [n3, l9]
 | n, a, b, [], _, _, _, _ => by rw [l9, l9]
 | 0, x :: a, y :: b, z :: d, hn, _, _, _ => by simp at hn
 | n + 1, x :: a, y :: b, z :: d, hn, ha, hb, hd => by
  simp only [List.length_cons] at hn
  have px := ha x (by simp)
  have py := hb y (by simp)
  have pz := hd z (by simp)
  have ha' : ∀ x ∈ a, p x := fun x hx => ha x (by simp [hx])
  have hb' : ∀ x ∈ b, p x := fun x hx => hb x (by simp [hx])
  have hd' : ∀ x ∈ d, p x := fun x hx => hd x (by simp [hx])
  by_cases h1 : c y x < 0
  ·by_cases h2 : c z y < 0
   ·have h3 : c z x < 0 := h.tr z y x pz py px h2 h1
    have e := L7 h n (x :: a) (y :: b) d (by simp only [List.length_cons]; omega) ha hb hd'
    rw [D6 h1] at e ⊢
    rw [D6 h2, D6 h2, D6 h3, e]
   ·have e := L7 h n (x :: a) b (z :: d) (by simp only [List.length_cons]; omega) ha hb' hd
    rw [D6 h1, G7 h2, G7 h2, D6 h1, e]
  ·by_cases h2 : c z x < 0
   ·have h3 : c z y < 0 := by
     by_cases h3 : c z y < 0
     ·exact h3
     ·exact absurd h2 (h.ntr z y x pz py px h3 h1)
    have e := L7 h n (x :: a) (y :: b) d (by simp only [List.length_cons]; omega) ha hb hd'
    rw [G7 h1] at e ⊢
    rw [D6 h2, D6 h3, D6 h2, e]
   ·have e := L7 h n a (y :: b) (z :: d) (by simp only [List.length_cons]; omega) ha' hb hd
    rw [G7 h1, G7 h2, e]
    by_cases h3 : c z y < 0
    ·rw [D6 h3, G7 h2]
    ·rw [G7 h3, G7 h1]
theorem b1Q {p : α -> Prop} {c : α -> α -> Int} (h : Swo p c) {a b d : List α} (ha : ∀ x ∈ a, p x) (hb : ∀ x ∈ b, p x) (hd : ∀ x ∈ d, p x) : mrg c (mrg c a b) d = mrg c a (mrg c b d) :=
 L7 h _ a b d rfl ha hb hd
def n5 (c : α -> α -> Int) (l : List α) : List α := l.foldl (fun s y => mrg c s [y]) []
theorem R6 (c : α -> α -> Int) (l : List α) (y : α) : n5 c (l ++ [y]) = mrg c (n5 c l) [y] := by
 unfold n5; rw [List.foldl_append]; rfl
theorem a3H (c : α -> α -> Int) : ∀ (l s : List α), (∀ z, z ∈ l.foldl (fun s y => mrg c s [y]) s ↔ z ∈ s ∨ z ∈ l) ∧ (l.foldl (fun s y => mrg c s [y]) s).length = s.length + l.length
 | [], s => by simp
 | y :: l, s => by
  obtain ⟨h1, h2⟩ := a3H c l (mrg c s [y])
  rw [List.foldl_cons]
  refine ⟨fun z => ?_, ?_⟩
  ·rw [h1, mrg_mem]; simp [or_assoc]
  ·rw [h2, D8]; simp only [List.length_cons, List.length_nil]; omega
theorem ssort_mem {c : α -> α -> Int} {l : List α} {z : α} : z ∈ n5 c l ↔ z ∈ l := by rw [n5, (a3H c l []).1]; simp
theorem e6 (c : α -> α -> Int) (l : List α) : (n5 c l).length = l.length := by rw [n5, (a3H c l []).2]; simp
theorem W8 {p : α -> Prop} {c : α -> α -> Int} (h : Swo p c) (a : List α) (ha : ∀ x ∈ a, p x) : ∀ (n : Nat) (b : List α), b.length = n -> (∀ x ∈ b, p x) -> n5 c (a ++ b) = mrg c (n5 c a) (n5 c b)
 | 0, b, hb, _ => by
  have : b = [] := List.length_eq_zero_iff.1 hb
  subst this
  rw [List.append_nil, show n5 c ([] : List α) = [] from rfl, l9]
 | n + 1, b, hb, hp => by
  have hne : b ≠ [] := fun he => by subst he; simp at hb
  obtain ⟨b', y, rfl⟩ : ∃ b' y, b = b' ++ [y] := ⟨b.dropLast, b.getLast hne, (List.dropLast_concat_getLast hne).symm⟩
  rw [<- List.append_assoc, R6, R6, W8 h a ha n b' (by simpa using hb) (fun x hx => hp x (by simp [hx]))]
  exact b1Q h (fun x hx => ha x (ssort_mem.1 hx)) (fun x hx => hp x (List.mem_append_left _ (ssort_mem.1 hx))) (fun x hx => hp x (List.mem_append_right _ hx))
theorem K8 {p : α -> Prop} {c : α -> α -> Int} (h : Swo p c) {a b : List α} (ha : ∀ x ∈ a, p x) (hb : ∀ x ∈ b, p x) : n5 c (a ++ b) = mrg c (n5 c a) (n5 c b) := W8 h a ha _ b rfl hb
def Ord (c : α -> α -> Int) (l : List α) : Prop := l.Pairwise fun x y => ¬ltC c y x
theorem a3U {p : α -> Prop} {c : α -> α -> Int} (h : Swo p c) : ∀ (n : Nat) (l m : List α), l.length + m.length = n -> (∀ x ∈ l, p x) -> (∀ x ∈ m, p x) -> Ord c l -> Ord c m -> Ord c (mrg c l m)
 | n, [], m, _, _, _, _, hm => by rw [n3]; exact hm
 | n, l, [], _, _, _, hl, _ => by rw [l9]; exact hl
 | 0, x :: xs, y :: ys, hn, _, _, _, _ => by simp at hn
 | n + 1, x :: xs, y :: ys, hn, pl, pm, hl, hm => by
  simp only [List.length_cons] at hn
  have px := pl x (by simp)
  have py := pm y (by simp)
  have hl' := List.pairwise_cons.1 hl
  have hm' := List.pairwise_cons.1 hm
  by_cases hc : c y x < 0
  ·rw [D6 hc]
   refine List.pairwise_cons.2 ⟨fun z hz => ?_, a3U h n _ _ (by simp only [List.length_cons]; omega) pl (fun z hz => pm z (by simp [hz])) hl hm'.2⟩
   rcases mrg_mem.1 hz with hz | hz
   ·have pz := pl z hz
    rcases List.mem_cons.1 hz with rfl | hz
    ·intro h1; exact h.irr y py (h.tr y z y py pz py hc h1)
    ·intro h1; exact hl'.1 z hz (h.tr z y x pz py px h1 hc)
   ·exact hm'.1 z hz
  ·rw [G7 hc]
   refine List.pairwise_cons.2 ⟨fun z hz => ?_, a3U h n _ _ (by simp only [List.length_cons]; omega) (fun z hz => pl z (by simp [hz])) pm hl'.2 hm⟩
   rcases mrg_mem.1 hz with hz | hz
   ·exact hl'.1 z hz
   ·have pz := pm z hz
    rcases List.mem_cons.1 hz with rfl | hz
    ·exact hc
    ·exact h.ntr z y x pz py px (hm'.1 z hz) hc
theorem b4A {p : α -> Prop} {c : α -> α -> Int} (h : Swo p c) {l m : List α} (pl : ∀ x ∈ l, p x) (pm : ∀ x ∈ m, p x) (hl : Ord c l) (hm : Ord c m) : Ord c (mrg c l m) := a3U h _ l m rfl pl pm hl hm
theorem a0x {p : α -> Prop} {c : α -> α -> Int} (h : Swo p c) : ∀ (l s : List α), (∀ x ∈ s, p x) -> (∀ x ∈ l, p x) -> Ord c s -> Ord c (l.foldl (fun s y => mrg c s [y]) s)
 | [], s, _, _, hs => hs
 | y :: l, s, ps, pl, hs => by
  rw [List.foldl_cons]
  have py := pl y (by simp)
  refine a0x h l _ (fun x hx => ?_) (fun x hx => pl x (by simp [hx])) (b4A h ps (fun x hx => by simp at hx; subst hx; exact py) hs (List.pairwise_singleton _ _))
  rcases mrg_mem.1 hx with hx | hx
  ·exact ps x hx
  ·grind
theorem x6 {p : α -> Prop} {c : α -> α -> Int} (h : Swo p c) {l : List α} (pl : ∀ x ∈ l, p x) : Ord c (n5 c l) := a0x h l [] (fun x hx => by simp at hx) pl List.Pairwise.nil
theorem a3Q {c : α -> α -> Int} {a b : List α} {y : α} (h1 : ∀ x ∈ a, ¬ltC c y x) (h2 : ∀ x ∈ b, ltC c y x) : mrg c (a ++ b) [y] = a ++ y :: b := by
 have := a1l (c := c) (u1 := a) (u2 := b) (v1 := []) (v2 := [y]) (fun z hz => by simp at hz) (fun z hz x hx => by simp at hz; subst hz; exact h1 x hx)
 rw [List.nil_append] at this
 rw [this, l9]
 congr 1
 cases b with
 | nil => rw [n3]
 | cons x b => rw [D6 (h2 x (by simp)), l9]
theorem b4W {c : α -> α -> Int} {a b : List α} {x : α} (h1 : ∀ y ∈ a, ltC c y x) (h2 : ∀ y ∈ b, ¬ltC c y x) : mrg c [x] (a ++ b) = a ++ x :: b := by
 have := a1l (c := c) (u1 := []) (u2 := [x]) (v1 := a) (v2 := b) (fun z hz w hw => by simp at hw; subst hw; exact h1 z hz) (fun z hz w hw => by simp at hw)
 rw [List.nil_append] at this
 rw [this, n3]
 congr 1
 cases b with
 | nil => rw [l9]
 | cons y b => rw [G7 (h2 y (by simp)), n3]
end
section
variable {α : Type} [Inhabited α]
theorem a0s {c : α -> α -> Int} {l : List α} (h : Ord c l) {i j : Nat} (hij : i < j) (hj : j < l.length) : ¬ltC c (l.getD j default) (l.getD i default) := by
 have h2 := List.pairwise_iff_getElem.1 h i j (by omega) hj hij
 grind
theorem y5 {l : List α} {i : Nat} (h : i < l.length) : l.getD i default ∈ l := by
 grind
theorem G8 {l : List α} {x : α} (h : x ∈ l) : ∃ i, i < l.length ∧ l.getD i default = x := by
 obtain ⟨i, hi, rfl⟩ := List.mem_iff_getElem.1 h
 exact ⟨i, hi, by rw [List.getD_eq_getElem?_getD, List.getElem?_eq_getElem hi]; rfl⟩
theorem R4 {l : List α} {i n : Nat} (h : i < n) : (l.take n).getD i default = l.getD i default := by
 grind
theorem S1 {l : List α} {i n : Nat} : (l.drop n).getD i default = l.getD (n + i) default := by
 grind
theorem b4T {p : α -> Prop} {c : α -> α -> Int} (h : Swo p c) {u v : List α} (pu : ∀ x ∈ u, p x) (pv : ∀ x ∈ v, p x) (ou : Ord c u) (ov : Ord c v) {i j : Nat} (hi : i <= u.length) (hj : j <= v.length)
  (h1 : i = 0 ∨ j = v.length ∨ ¬ltC c (v.getD j default) (u.getD (i - 1) default)) (h2 : i = u.length ∨ j = 0 ∨ ltC c (v.getD (j - 1) default) (u.getD i default)) :
  mrg c u v = mrg c (u.take i) (v.take j) ++ mrg c (u.drop i) (v.drop j) := by
 have := a1l (c := c) (u1 := u.take i) (u2 := u.drop i) (v1 := v.take j) (v2 := v.drop j) (fun y hy x hx => ?_) (fun y hy x hx => ?_)
 ·simp_all
 ·obtain ⟨k, hk, rfl⟩ := G8 hy
  obtain ⟨m, hm, rfl⟩ := G8 hx
  rw [List.length_take] at hk
  rw [List.length_drop] at hm
  rw [R4 (by omega), S1]
  have h3 : ltC c (v.getD (j - 1) default) (u.getD i default) := by rcases h2 with h2 | h2 | h2 <;> first | omega | exact h2
  have p1 := pv _ (y5 (l := v) (i := k) (by omega))
  have p2 := pv _ (y5 (l := v) (i := j - 1) (by omega))
  have p3 := pu _ (y5 (l := u) (i := i) (by omega))
  have p4 := pu _ (y5 (l := u) (i := i + m) (by omega))
  have h4 : ¬ltC c (v.getD (j - 1) default) (v.getD k default) := by
   by_cases e : k = j - 1
   ·rw [e]; exact h.irr _ p2
   ·exact a0s ov (by omega) (by omega)
  have h5 : ¬ltC c (u.getD (i + m) default) (u.getD i default) := by
   by_cases e : m = 0
   ·rw [e]; exact h.irr _ p3
   ·exact a0s ou (by omega) (by omega)
  by_cases h6 : ltC c (v.getD k default) (u.getD (i + m) default)
  ·exact h6
  ·exact absurd h3 (h.ntr _ _ _ p2 p1 p3 h4 (h.ntr _ _ _ p1 p4 p3 h6 h5))
 ·obtain ⟨k, hk, rfl⟩ := G8 hy
  obtain ⟨m, hm, rfl⟩ := G8 hx
  rw [List.length_take] at hm
  rw [List.length_drop] at hk
  rw [R4 (by omega), S1]
  have h3 : ¬ltC c (v.getD j default) (u.getD (i - 1) default) := by rcases h1 with h1 | h1 | h1 <;> first | omega | exact h1
  have p1 := pv _ (y5 (l := v) (i := j + k) (by omega))
  have p2 := pv _ (y5 (l := v) (i := j) (by omega))
  have p3 := pu _ (y5 (l := u) (i := i - 1) (by omega))
  have p4 := pu _ (y5 (l := u) (i := m) (by omega))
  have h4 : ¬ltC c (v.getD (j + k) default) (v.getD j default) := by
   by_cases e : k = 0
   ·rw [e]; exact h.irr _ p2
   ·exact a0s ov (by omega) (by omega)
  have h5 : ¬ltC c (u.getD (i - 1) default) (u.getD m default) := by
   by_cases e : m = i - 1
   ·rw [e]; exact h.irr _ p3
   ·exact a0s ou (by omega) (by omega)
  exact h.ntr _ _ _ p1 p2 p4 h4 (h.ntr _ _ _ p2 p3 p4 h3 h5)
/-! ### swapping -/
def swx (l : List α) (i j : Nat) : List α := (l.set i (l.getD j default)).set j (l.getD i default)
theorem a0T (p s : List α) (x : α) : (p ++ x :: s).getD p.length default = x := by simp [List.getD_eq_getElem?_getD]
omit [Inhabited α] in
theorem d5o (p s : List α) (x y : α) : (p ++ x :: s).set p.length y = p ++ y :: s := by simp
theorem W3 {p q s : List α} {x y : α} {i j : Nat} (hi : i = p.length) (hj : j = p.length + 1 + q.length) : swx (p ++ x :: (q ++ y :: s)) i j = p ++ y :: (q ++ x :: s) := by
 subst hi
 have e : p ++ x :: (q ++ y :: s) = (p ++ x :: q) ++ y :: s := by simp
 have hj' : j = (p ++ x :: q).length := by simp; omega
 unfold swx
 grind
theorem a9n (l : List α) (i j : Nat) (hij : i ≠ j) : swx l i j = (l.set j (l.getD i default)).set i (l.getD j default) := by
 unfold swx; rw [List.set_comm _ _ hij]
theorem b4z (l : List α) (i j : Nat) (hij : i ≠ j) (hi : i < l.length) (hj : j < l.length) : swx (swx l i j) i j = l := by
 have h1 : (swx l i j).getD j default = l.getD i default := by
  unfold swx
  grind
 have h2 : (swx l i j).getD i default = l.getD j default := by
  unfold swx
  grind
 refine List.ext_getElem? fun k => ?_
 show (((swx l i j).set i ((swx l i j).getD j default)).set j ((swx l i j).getD i default))[k]? = _
 rw [h1, h2]
 simp only [swx, List.getElem?_set, List.length_set]
 all_goals grind
def swr (p u q v s : List α) (i : Nat) : List α := p ++ (v.take i ++ (u.drop i ++ (q ++ (u.take i ++ (v.drop i ++ s)))))
theorem B7 {l : List α} {i : Nat} (h : i < l.length) : l.take (i + 1) = l.take i ++ [l.getD i default] := by
 simp_all
theorem F6 {l : List α} {i : Nat} (h : i < l.length) : l.drop i = l.getD i default :: l.drop (i + 1) := by
 simp_all
omit [Inhabited α] in
theorem b3m (p u q v s : List α) (i : Nat) (h : u.length = v.length) : (swr p u q v s i).length = p.length + u.length + q.length + v.length + s.length := by
 simp [swr]; omega
theorem a8Z {p u q v s : List α} {i a b : Nat} (h : u.length = v.length) (hi : i < u.length) (ha : a = p.length + i) (hb : b = p.length + u.length + q.length + i) :
  swx (swr p u q v s i) a b = swr p u q v s (i + 1) := by
 have e : swr p u q v s i = (p ++ v.take i) ++ u.getD i default :: ((u.drop (i + 1) ++ q ++ u.take i) ++ v.getD i default :: (v.drop (i + 1) ++ s)) := by
  unfold swr
  rw [F6 hi, F6 (l := v) (by omega)]; simp
 rw [e, W3 (by simp; omega) (by simp; omega)]
 unfold swr
 rw [B7 hi, B7 (l := v) (by omega)]; simp
omit [Inhabited α] in
theorem a8z (p u q v s : List α) : swr p u q v s 0 = p ++ (u ++ (q ++ (v ++ s))) := by simp [swr]
omit [Inhabited α] in
theorem b3g (p u q v s : List α) {n : Nat} (h : u.length = n) (h' : v.length = n) : swr p u q v s n = p ++ (v ++ (q ++ (u ++ s))) := by
 simp [swr, List.take_of_length_le, List.drop_eq_nil_of_le, h, h']
/-! ### blocks -/
inductive Bk (c : α -> α -> Int) (n : Nat) : List α -> List α -> Prop
 | last (l : List α) : l.length <= n -> Bk c n l (n5 c l)
 | cons (b l s : List α) : b.length = n -> Bk c n l s -> Bk c n (b ++ l) (n5 c b ++ s)
omit [Inhabited α] in
theorem Bk.len {c : α -> α -> Int} {n : Nat} {d s : List α} (h : Bk c n d s) : s.length = d.length := by
 induction h with
 | last l _ => rw [e6]
 | cons b l s _ _ ih => simp [e6, ih]
omit [Inhabited α] in
theorem Bk.one {c : α -> α -> Int} {n : Nat} {d s : List α} (hn : 0 < n) (h : Bk c n d s) (hd : d.length <= n) : s = n5 c d := by
 cases h with
 | last _ _ => rfl
 | cons b l s hb hl =>
  have hl0 : l = [] := by
   rw [List.length_append] at hd
   exact List.length_eq_zero_iff.1 (by omega)
  subst hl0
  have := hl.len
  grind
omit [Inhabited α] in
theorem Bk.take {c : α -> α -> Int} {n : Nat} {d s : List α} (h : Bk c n d s) (hd : n <= d.length) : ∃ b l s', d = b ++ l ∧ s = n5 c b ++ s' ∧ b.length = n ∧ Bk c n l s' := by
 cases h with
 | last _ hl => exact ⟨d, [], [], by simp, by simp, by omega, .last [] (by simp)⟩
 | cons b l s hb hl => exact ⟨b, l, s, rfl, rfl, hb, hl⟩
end
section
variable {α β : Type}
theorem a1P (c : α -> α -> Int) (y : α) : mrg c [] [y] = [y] := n3 _ _
theorem b0A {c : α -> α -> Int} {x y : α} {s : List α} (h : c y x < 0) : mrg c (x :: s) [y] = y :: x :: s := by rw [D6 h, l9]
theorem a9O {c : α -> α -> Int} {x y : α} {s : List α} (h : ¬c y x < 0) : mrg c (x :: s) [y] = x :: mrg c s [y] := G7 h
theorem a8i {c d : α -> α -> Int} {y : α} : ∀ {s : List α}, (∀ x ∈ s, (c y x < 0 ↔ d y x < 0)) -> mrg c s [y] = mrg d s [y]
 | [], _ => by rw [a1P, a1P]
 | x :: s, h => by
  have hx := h x (by simp)
  by_cases hc : c y x < 0
  ·rw [b0A hc, b0A (hx.1 hc)]
  ·rw [a9O hc, a9O (fun hd => hc (hx.2 hd)), a8i fun z hz => h z (by simp [hz])]
theorem a5x {c d : α -> α -> Int} : ∀ (l s : List α), (∀ x ∈ s, ∀ y ∈ l, (c y x < 0 ↔ d y x < 0)) -> l.Pairwise (fun x y => (c y x < 0 ↔ d y x < 0)) -> l.foldl (fun s y => mrg c s [y]) s = l.foldl (fun s y => mrg d s [y]) s
 | [], _, _, _ => rfl
 | y :: l, s, h1, h2 => by
  rw [List.pairwise_cons] at h2
  rw [List.foldl_cons, List.foldl_cons, a8i fun x hx => h1 x hx y (by simp)]
  refine a5x l _ (fun x hx z hz => ?_) h2.2
  rw [mrg_mem] at hx
  all_goals grind
theorem a6P {c d : α -> α -> Int} {l : List α} (h : l.Pairwise (fun x y => (c y x < 0 ↔ d y x < 0))) : n5 c l = n5 d l :=
 a5x l [] (fun x hx => by simp at hx) h
theorem d0e {c : α -> α -> Int} {y : α} : ∀ {s : List α}, (∀ x ∈ s, c y x < 0) -> mrg c s [y] = y :: s
 | [], _ => a1P c y
 | x :: s, h => b0A (h x (by simp))
theorem a4J {c : α -> α -> Int} (h : Swo (fun _ => True) c) (p : α -> Bool) (y : α) : ∀ {s : List α}, Ord c s -> (mrg c s [y]).filter p = if p y = true then mrg c (s.filter p) [y] else s.filter p
 | [], _ => by rw [a1P]; by_cases hp : p y = true <;> simp [hp, a1P]
 | x :: s, ho => by
  unfold Ord at ho
  rw [List.pairwise_cons] at ho
  by_cases hc : c y x < 0
  ·rw [b0A hc, List.filter_cons]
   by_cases hp : p y = true
   ·rw [if_pos hp, if_pos hp, d0e]
    intro z hz
    rcases List.mem_cons.1 (List.mem_filter.1 hz).1 with rfl | hz
    ·exact hc
    ·apply Classical.byContradiction
     intro hn
     exact h.ntr y z x trivial trivial trivial hn (ho.1 z hz) hc
   ·rw [if_neg hp, if_neg hp]
  ·rw [a9O hc, List.filter_cons, a4J h p y ho.2]
   by_cases hp : p y = true
   ·rw [if_pos hp, if_pos hp, List.filter_cons]
    by_cases hx : p x = true
    ·rw [if_pos hx, if_pos hx, a9O hc]
    ·rw [if_neg hx, if_neg hx]
   ·grind
theorem a2M {c : α -> α -> Int} (h : Swo (fun _ => True) c) (p : α -> Bool) : ∀ (l s : List α), Ord c s -> (l.foldl (fun s y => mrg c s [y]) s).filter p = (l.filter p).foldl (fun s y => mrg c s [y]) (s.filter p)
 | [], _, _ => rfl
 | y :: l, s, ho => by
  rw [List.foldl_cons, a2M h p l _ (b4A h (fun _ _ => trivial) (fun _ _ => trivial) ho (List.pairwise_singleton _ _)), a4J h p y ho, List.filter_cons]
  all_goals grind
theorem P9 {c : α -> α -> Int} (h : Swo (fun _ => True) c) (p : α -> Bool) (l : List α) : (n5 c l).filter p = n5 c (l.filter p) :=
 a2M h p l [] List.Pairwise.nil
theorem c1E {c : α -> α -> Int} {d : β -> β -> Int} {f : α -> β} (h : ∀ x y, d (f x) (f y) = c x y) (y : α) : ∀ (s : List α), (mrg c s [y]).map f = mrg d (s.map f) [f y]
 | [] => by rw [a1P, List.map_nil, a1P]; rfl
 | x :: s => by
  by_cases hc : c y x < 0
  ·rw [b0A hc, List.map_cons (l := s), b0A (by rw [h]; exact hc)]; rfl
  ·rw [a9O hc, List.map_cons, List.map_cons (l := s), a9O (by rw [h]; exact hc), c1E h y s]
theorem a5i {c : α -> α -> Int} {d : β -> β -> Int} {f : α -> β} (h : ∀ x y, d (f x) (f y) = c x y) (l : List α) : (n5 c l).map f = n5 d (l.map f) := by
 have : ∀ (l s : List α), (l.foldl (fun s y => mrg c s [y]) s).map f = (l.map f).foldl (fun s y => mrg d s [y]) (s.map f) := by
  intro l
  induction l with
  | nil => intro s; rfl
  | cons y l ih => intro s; rw [List.foldl_cons, ih, c1E h, List.map_cons, List.foldl_cons]
 exact this l []
/-! ### events, one after the other, and moment by moment -/
def hdT (tm : α -> Int) : List α -> Int -> Bool
 | [], _ => false
 | e :: _, t => decide (tm e = t)
def a4t (tm : α -> Int) (ap : α -> β -> β) (rp : Int -> β -> β) (to : Int) : List α -> β -> β
 | [], s => s
 | e :: r, s => if to < tm e then s else a4t tm ap rp to r (if hdT tm r (tm e) = true then ap e s else rp (tm e) (ap e s))
def atM (tm : α -> Int) (E : List α) (t : Int) : List α := E.filter fun e => decide (tm e = t)
def moG (tm : α -> Int) (ap : α -> β -> β) (rp : Int -> β -> β) (E : List α) : Nat -> Int -> β -> β
 | 0, _, s => s
 | n + 1, t, s => moG tm ap rp E n (t + 1) (if atM tm E t = [] then s else rp t ((atM tm E t).foldl (fun s e => ap e s) s))
theorem b3o {tm : α -> Int} {ap : α -> β -> β} {rp : Int -> β -> β} {to t : Int} (ht : t <= to) {R : List α} (hR : ∀ e ∈ R, t < tm e) : ∀ (G : List α) (s : β), G ≠ [] -> (∀ e ∈ G, tm e = t) ->
  a4t tm ap rp to (G ++ R) s = a4t tm ap rp to R (rp t (G.foldl (fun s e => ap e s) s))
 | [], _, h, _ => absurd rfl h
 | [e], s, _, h => by
  have he := h e (by simp)
  show a4t tm ap rp to (e :: R) s = _
  have hh : hdT tm R t = false := by
   cases R with
   | nil => rfl
   | cons f R => exact decide_eq_false (by have := hR f (by simp); omega)
  rw [a4t, if_neg (by omega), he, hh, if_neg (by simp)]
  rfl
 | e :: e' :: G, s, _, h => by
  have he := h e (by simp)
  have he' := h e' (by simp)
  show a4t tm ap rp to (e :: (e' :: G ++ R)) s = _
  rw [a4t, if_neg (by omega), he, show hdT tm (e' :: G ++ R) t = true from decide_eq_true he', if_pos rfl, b3o ht hR (e' :: G) _ (by simp) (fun x hx => h x (by simp [hx]))]
  rfl
theorem a8J {tm : α -> Int} {t : Int} : ∀ {E : List α}, E.Pairwise (fun x y => tm x <= tm y) -> (∀ e ∈ E, t <= tm e) -> E = atM tm E t ++ E.filter (fun e => decide (t < tm e))
 | [], _, _ => rfl
 | e :: E, h, hm => by
  rw [List.pairwise_cons] at h
  have ih := a8J (tm := tm) (t := t) h.2 fun x hx => hm x (by simp [hx])
  unfold atM at ih ⊢
  have h0 := hm e (by simp)
  by_cases he : tm e = t
  ·grind
  ·rw [List.filter_cons, if_neg (by simpa using he), List.filter_cons, if_pos (by simp; omega)]
   have : E.filter (fun e => decide (tm e = t)) = [] := List.filter_eq_nil_iff.2 fun x hx => by have := h.1 x hx; simp; omega
   grind
theorem a8n {tm : α -> Int} {ap : α -> β -> β} {rp : Int -> β -> β} {E E' : List α} : ∀ (n : Nat) (t : Int) (s : β), (∀ t', t <= t' -> atM tm E t' = atM tm E' t') -> moG tm ap rp E n t s = moG tm ap rp E' n t s
 | 0, _, _, _ => rfl
 | n + 1, t, s, h => by
  rw [moG, moG, h t (Int.le_refl _), a8n n (t + 1) _ fun t' ht => h t' (by omega)]
theorem b1A {tm : α -> Int} {ap : α -> β -> β} {rp : Int -> β -> β} {to : Int} : ∀ (n : Nat) (t : Int) (E : List α) (s : β), n = (to + 1 - t).toNat -> E.Pairwise (fun x y => tm x <= tm y) -> (∀ e ∈ E, t <= tm e) ->
  a4t tm ap rp to E s = moG tm ap rp E n t s
 | 0, t, E, s, hn, _, hm => by
  rw [moG]
  cases E with
  | nil => rfl
  | cons e E => rw [a4t, if_pos (by have := hm e (by simp); omega)]
 | n + 1, t, E, s, hn, hp, hm => by
  have hs := a8J hp hm
  have hf : ∀ t', t + 1 <= t' -> atM tm E t' = atM tm (E.filter fun e => decide (t < tm e)) t' := fun t' ht => by
   unfold atM
   rw [List.filter_filter]
   all_goals grind
  have ih := fun s => b1A (ap := ap) (rp := rp) (to := to) n (t + 1) (E.filter fun e => decide (t < tm e)) s (by omega) (hp.filter _) (fun e he => by have := (List.mem_filter.1 he).2; simp at this; omega)
  rw [moG]
  by_cases hg : atM tm E t = []
  ·grind
  ·rw [if_neg hg, a8n n (t + 1) _ hf, <- ih]
   conv => lhs; rw [hs]
   exact b3o (by omega) (fun e he => by have := (List.mem_filter.1 he).2; simpa using this) _ _ hg (fun e he => by have := (List.mem_filter.1 he).2; simpa using this)
theorem a7h {k : α -> Int} : ∀ {E : List α}, E.Pairwise (fun x y => k x <= k y) -> (∀ e ∈ E, k e = 0 ∨ k e = 1 ∨ k e = 2) -> E = E.filter (fun e => decide (k e = 0)) ++ (E.filter (fun e => decide (k e = 1)) ++ E.filter (fun e => decide (k e = 2)))
 | [], _, _ => rfl
 | e :: E, h, hm => by
  rw [List.pairwise_cons] at h
  have ih := a7h (k := k) h.2 fun x hx => hm x (by simp [hx])
  rcases hm e (by simp) with he | he | he
  ·grind
  ·have h0 : E.filter (fun e => decide (k e = 0)) = [] := List.filter_eq_nil_iff.2 fun x hx => by have := h.1 x hx; simp; omega
   grind
  ·have h0 : E.filter (fun e => decide (k e = 0)) = [] := List.filter_eq_nil_iff.2 fun x hx => by have := h.1 x hx; simp; omega
   have h1 : E.filter (fun e => decide (k e = 1)) = [] := List.filter_eq_nil_iff.2 fun x hx => by have := h.1 x hx; simp; omega
   grind
end
end Go.Proofs.YtnlafmigfjlnnaaGreatDoor

/-
 The order of acts; what is in order stays as it is.
-/
import Derived.Test.YtfgkpbkphmeigaaGreatDoorAc2
import Derived.Test.YtfgkpbkphmeigaaGreatDoorStb
namespace Go.Proofs.YtfgkpbkphmeigaaGreatDoor
open Go Go.Ai
set_option linter.unusedSimpArgs false
set_option linter.unusedVariables false
set_option maxHeartbeats 4000000
theorem cmpS_lt {a b : ByteArray} : cmpS a b < 0 ↔ ltS a b := by
 rcases cmpS_is a b with ⟨h, rfl⟩ | ⟨h, h'⟩ | ⟨h, h'⟩
 ·rw [h]; exact ⟨fun h => by omega, fun h => absurd h (ltS_irr _)⟩
 ·rw [h]; exact ⟨fun _ => h', fun _ => by omega⟩
 ·rw [h]; exact ⟨fun h => by omega, fun h2 => absurd h2 (ltS_asymm h')⟩
theorem cmpS_ne {a b : ByteArray} : cmpS a b ≠ 0 ↔ a ≠ b := by
 rcases cmpS_is a b with ⟨h, rfl⟩ | ⟨h, h'⟩ | ⟨h, h'⟩
 ·simp [h]
 ·rw [h]; exact ⟨fun _ e => ltS_irr b (e ▸ h'), fun _ => by omega⟩
 ·rw [h]; exact ⟨fun _ e => ltS_irr b (e ▸ h'), fun _ => by omega⟩
theorem cmpO_ltS (x y : Opr) : cmpO x y < 0 ↔ ltS x.b y.b ∨ (x.b = y.b ∧ x.no < y.no) := by
 unfold cmpO
 by_cases h : x.b = y.b
 ·rw [if_neg (by rw [cmpS_ne]; simp [h])]
  unfold cmpI
  constructor
  ·intro hi
   split at hi
   ·exact .inr ⟨h, by assumption⟩
   ·split at hi <;> omega
  ·rintro (hi | ⟨_, hi⟩)
   ·rw [h] at hi; exact absurd hi (ltS_irr _)
   ·rw [if_pos hi]; omega
 ·rw [if_pos (cmpS_ne.2 h), cmpS_lt]
  exact ⟨.inl, fun hh => hh.elim id fun hh => absurd hh.1 h⟩
theorem swoO (p : Opr → Prop) : Swo p cmpO where
 irr x _ h := by
  rcases (cmpO_ltS x x).1 h with h | ⟨_, h⟩
  ·exact ltS_irr _ h
  ·omega
 tr x y z _ _ _ h1 h2 := by
  refine (cmpO_ltS x z).2 ?_
  rcases (cmpO_ltS x y).1 h1 with h | ⟨e, h⟩ <;> rcases (cmpO_ltS y z).1 h2 with g | ⟨f, g⟩
  ·exact .inl (ltS_trans h g)
  ·exact .inl (f ▸ h)
  ·exact .inl (e ▸ g)
  ·exact .inr ⟨e.trans f, by omega⟩
 ntr x y z _ _ _ h1 h2 h3 := by
  rcases (cmpO_ltS x z).1 h3 with h | ⟨e, h⟩
  ·rcases ltS_or x.b y.b with g | g | g
   ·exact h1 ((cmpO_ltS x y).2 (.inl g))
   ·exact h2 ((cmpO_ltS y z).2 (.inl (g ▸ h)))
   ·exact h2 ((cmpO_ltS y z).2 (.inl (ltS_trans g h)))
  ·rcases ltS_or x.b y.b with g | g | g
   ·exact h1 ((cmpO_ltS x y).2 (.inl g))
   ·by_cases k : x.no < y.no
    ·exact h1 ((cmpO_ltS x y).2 (.inr ⟨g, k⟩))
    ·exact h2 ((cmpO_ltS y z).2 (.inr ⟨g.symm.trans e, by omega⟩))
   ·exact h2 ((cmpO_ltS y z).2 (.inl (e ▸ g)))
section
variable {α : Type} [Inhabited α]
end
theorem up_lt {l : List Opr} (h : ∀ i, i + 1 < l.length → cmpO (l.getD i default) (l.getD (i + 1) default) < 0) : ∀ (d i : Nat), i + d + 1 < l.length → cmpO (l.getD i default) (l.getD (i + d + 1) default) < 0
 | 0, i, hi => h i hi
 | d + 1, i, hi => (swoO fun _ => True).tr _ (l.getD (i + d + 1) default) _ trivial trivial trivial (up_lt h d i (by omega)) (h (i + d + 1) (by omega))
end Go.Proofs.YtfgkpbkphmeigaaGreatDoor
/-
 Merging acts, in plain terms: what the program says of two lists of acts, and what the reference says.
-/
namespace Go.Proofs.YtfgkpbkphmeigaaGreatDoor
open Go Go.Ai
set_option linter.unusedSimpArgs false
set_option linter.unusedVariables false
set_option maxHeartbeats 4000000
set_option linter.unusedSectionVars false
section
variable {α : Type} [Inhabited α]
theorem mrg_perm {c : α → α → Int} {y : α} : ∀ (s : List α), (mrg c s [y]).Perm (y :: s)
 | [] => by rw [mrg_nil]
 | x :: xs => by
  by_cases hlt : c y x < 0
  ·rw [mrg_lt hlt, mrg_nil']
  ·rw [mrg_ge hlt]
   exact ((mrg_perm xs).cons x).trans (List.Perm.swap y x xs)
theorem ssort_perm_go {c : α → α → Int} : ∀ (l s : List α), (l.foldl (fun s y => mrg c s [y]) s).Perm (s ++ l)
 | [], s => by simp
 | y :: l, s => by
  refine (ssort_perm_go l _).trans ?_
  refine ((mrg_perm s).append_right l).trans ?_
  exact (List.perm_middle (l₁ := s) (a := y) (l₂ := l)).symm
theorem ssort_perm {c : α → α → Int} (l : List α) : (ssort c l).Perm l := by
 have := ssort_perm_go (c := c) l []
 rw [List.nil_append] at this
 exact this
/-! ### neighbours that are alike -/
def ddG [DecidableEq α] (l : List α) : List α := l.foldl (fun o x => if o.getLast? = some x then o else o ++ [x]) []
theorem ddG_snoc [DecidableEq α] (l : List α) (x : α) : ddG (l ++ [x]) = if (ddG l).getLast? = some x then ddG l else ddG l ++ [x] := by
 unfold ddG
 rw [List.foldl_append]; rfl
theorem ddG_last [DecidableEq α] (l : List α) : (ddG l).getLast? = l.getLast? := by
 rcases List.eq_nil_or_concat l with rfl | ⟨r, x, rfl⟩
 ·rfl
 ·rw [List.concat_eq_append, ddG_snoc]
  split
  ·rename_i h; rw [h]; simp
  ·simp
theorem ddG_snoc' [DecidableEq α] (l : List α) (x : α) : ddG (l ++ [x]) = if l.getLast? = some x then ddG l else ddG l ++ [x] := by
 rw [ddG_snoc, ddG_last]
end
instance : DecidableEq Opr := fun x y => decidable_of_iff (x.b = y.b ∧ x.no = y.no ∧ x.at_ = y.at_ ∧ x.kd = y.kd ∧ x.al = y.al ∧ x.un = y.un) ⟨fun ⟨h1, h2, h3, h4, h5, h6⟩ => (by cases x; cases y; simp at h1 h2 h3 h4 h5 h6; simp [h1, h2, h3, h4, h5, h6]), fun h => (by subst h; simp)⟩
inductive Hv : List Opr → List Opr → List Opr → Prop
 | nil : Hv [] [] []
 | l {x p q : List Opr} (a : Opr) : Hv x p q → Hv (x ++ [a]) (p ++ [a]) q
 | r {x p q : List Opr} (a : Opr) : Hv x p q → Hv (x ++ [a]) p (q ++ [a])
 | b {x p q : List Opr} (a : Opr) : Hv x p q → Hv (x ++ [a]) (p ++ [a]) (q ++ [a])
theorem Hv.symm {x p q : List Opr} (h : Hv x p q) : Hv x q p := by
 induction h with
 | nil => exact .nil
 | l a _ ih => exact .r a ih
 | r a _ ih => exact .l a ih
 | b a _ ih => exact .b a ih
theorem Hv.sub {x p q : List Opr} (h : Hv x p q) : p.Sublist x := by
 induction h with
 | nil => exact .slnil
 | l a _ ih => exact ih.append (List.Sublist.refl _)
 | r a _ ih => exact ih.trans (List.sublist_append_left _ _)
 | b a _ ih => exact ih.append (List.Sublist.refl _)
theorem cmpO_self (x : Opr) : ¬cmpO x x < 0 := (swoO fun _ => True).irr x trivial
theorem cmpO_asy {x y : Opr} (h : cmpO x y < 0) : ¬cmpO y x < 0 := fun h2 => cmpO_self x ((swoO fun _ => True).tr x y x trivial trivial trivial h h2)
theorem cmpO_zero {x y : Opr} (h : cmpO x y = 0) : ¬cmpO x y < 0 ∧ ¬cmpO y x < 0 := by
 have := cmpO_anti x y; omega
theorem ddG_mem (l : List Opr) (x : Opr) : x ∈ ddG l ↔ x ∈ l := by
 have key : ∀ n (l : List Opr), l.length = n → (x ∈ ddG l ↔ x ∈ l) := by
  intro n
  induction n with
  | zero => intro l h; rw [List.eq_nil_of_length_eq_zero h]; rfl
  | succ n ih =>
   intro l h
   rcases List.eq_nil_or_concat l with rfl | ⟨r, y, rfl⟩
   ·simp at h
   ·rw [List.concat_eq_append] at h ⊢
    have hr : r.length = n := by simpa using h
    rw [ddG_snoc']
    split
    ·rename_i hl
     have := List.mem_of_getLast? hl
     rw [ih r hr, List.mem_append, List.mem_singleton]
     exact ⟨.inl, fun h => h.elim id fun e => e ▸ this⟩
    ·rw [List.mem_append, List.mem_append, ih r hr]
 exact key _ l rfl
theorem ddG_sub : ∀ (n : Nat) (l : List Opr), l.length = n → (ddG l).Sublist l
 | 0, l, h => by rw [List.eq_nil_of_length_eq_zero h]; exact .slnil
 | n + 1, l, h => by
  rcases List.eq_nil_or_concat l with rfl | ⟨r, y, rfl⟩
  ·simp at h
  ·rw [List.concat_eq_append] at h ⊢
   have ih := ddG_sub n r (by simpa using h)
   rw [ddG_snoc']
   split
   ·exact ih.trans (List.sublist_append_left _ _)
   ·exact ih.append (List.Sublist.refl _)
theorem dd_pw : ∀ (n : Nat) (l : List Opr), l.length = n → Ord cmpO l → (∀ x ∈ l, ∀ y ∈ l, cmpO x y = 0 → x = y) → (ddG l).Pairwise fun a b => cmpO a b < 0
 | 0, l, h, _, _ => by rw [List.eq_nil_of_length_eq_zero h]; exact .nil
 | n + 1, l, h, ho, hu => by
  rcases List.eq_nil_or_concat l with rfl | ⟨r, y, rfl⟩
  ·simp at h
  ·rw [List.concat_eq_append] at h ho hu ⊢
   obtain ⟨o1, _, o2⟩ := List.pairwise_append.1 ho
   have ih := dd_pw n r (by simpa using h) o1 fun x hx z hz => hu x (by simp [hx]) z (by simp [hz])
   rw [ddG_snoc']
   split
   ·exact ih
   ·rename_i hl
    refine List.pairwise_append.2 ⟨ih, List.pairwise_singleton _ _, fun x hx z hz => ?_⟩
    rw [List.mem_singleton] at hz
    subst hz
    have hxr := (ddG_mem r x).1 hx
    have h1 : ¬cmpO z x < 0 := o2 x hxr z (by simp)
    have han := cmpO_anti x z
    rcases Int.lt_or_le (cmpO x z) 0 with h2 | h2
    ·exact h2
    ·exfalso
     have e := hu x (by simp [hxr]) z (by simp) (by omega)
     subst e
     -- x is in r, and what comes last in r is not less
     rcases List.eq_nil_or_concat r with rfl | ⟨r', w, rfl⟩
     ·simp at hxr
     ·rw [List.concat_eq_append] at *
      have hw : w ≠ x := fun e => hl (by simp [e])
      have hxw : x ∈ r' := by
       rcases List.mem_append.1 hxr with h | h
       ·exact h
       ·rw [List.mem_singleton] at h; exact absurd h.symm hw
      have g1 : ¬cmpO w x < 0 := (List.pairwise_append.1 o1).2.2 x hxw w (by simp)
      have g2 : ¬cmpO x w < 0 := o2 w (by simp) x (by simp)
      have g3 := cmpO_anti x w
      exact hw (hu w (by simp) x (by simp) (by have := cmpO_anti w x; omega))
/-- Two lists in order with the same members are the same. -/
theorem pw_ext : ∀ (a b : List Opr), a.Pairwise (fun x y => cmpO x y < 0) → b.Pairwise (fun x y => cmpO x y < 0) → (∀ x, x ∈ a ↔ x ∈ b) → a = b
 | [], b, _, _, h => by
  cases b with
  | nil => rfl
  | cons y b => exact absurd ((h y).2 (by simp)) (by simp)
 | x :: a, [], _, _, h => absurd ((h x).1 (by simp)) (by simp)
 | x :: a, y :: b, ha, hb, h => by
  obtain ⟨ha1, ha2⟩ := List.pairwise_cons.1 ha
  obtain ⟨hb1, hb2⟩ := List.pairwise_cons.1 hb
  have e : x = y := by
   rcases List.mem_cons.1 ((h x).1 (by simp)) with e | hx
   ·exact e
   ·rcases List.mem_cons.1 ((h y).2 (by simp)) with e | hy
    ·exact e.symm
    ·exact absurd (ha1 y hy) (cmpO_asy (hb1 x hx))
  subst e
  rw [pw_ext a b ha2 hb2 fun z => ?_]
  constructor
  ·intro hz
   rcases List.mem_cons.1 ((h z).1 (by simp [hz])) with e | hz2
   ·subst e; exact absurd (ha1 z hz) (cmpO_self z)
   ·exact hz2
  ·intro hz
   rcases List.mem_cons.1 ((h z).2 (by simp [hz])) with e | hz2
   ·subst e; exact absurd (hb1 z hz) (cmpO_self z)
   ·exact hz2
/-! ### merging -/
def outM (p q : List Opr) : List Opr := ddG (ssort cmpO (p ++ q))
/-- An act that is another one of the same operator and number. -/
def cf1 (p : List Opr) (y : Opr) : Bool := p.any fun x => decide (cmpO y x = 0 ∧ x ≠ y)
def cfB (p q : List Opr) : Bool := q.any (cf1 p)
def mgE (p q : List Opr) : List Opr × Int := if cfB p q = true then ([], 13) else if ofF (outM p q) ≠ 0 then ([], ofF (outM p q)) else (outM p q, 0)
theorem act_pw {a : List Opr} (h : ActOk a) : a.Pairwise fun x y => cmpO x y < 0 := by
 rw [List.pairwise_iff_getElem]
 intro i j hi hj hij
 have h1 := up_lt h.up (j - i - 1) i (by omega)
 rw [show i + (j - i - 1) + 1 = j by omega, List.getD_eq_getElem?_getD, List.getD_eq_getElem?_getD, List.getElem?_eq_getElem hi, List.getElem?_eq_getElem hj] at h1
 exact h1
theorem pw_uniq {a : List Opr} (h : a.Pairwise fun x y => cmpO x y < 0) {x y : Opr} (hx : x ∈ a) (hy : y ∈ a) (hc : cmpO x y = 0) : x = y := by
 obtain ⟨i, hi, rfl⟩ := List.getElem_of_mem hx
 obtain ⟨j, hj, rfl⟩ := List.getElem_of_mem hy
 have h2 := List.pairwise_iff_getElem.1 h
 have h3 := cmpO_zero hc
 rcases Nat.lt_trichotomy i j with g | g | g
 ·exact absurd (h2 i j hi hj g) h3.1
 ·subst g; rfl
 ·exact absurd (h2 j i hj hi g) h3.2
theorem cf_no {p q : List Opr} (h : cfB p q = false) {x y : Opr} (hx : x ∈ p) (hy : y ∈ q) (hc : cmpO y x = 0) : x = y := by
 have h1 := List.any_eq_false.1 h y hy
 rw [Bool.not_eq_true] at h1
 have h2 := List.any_eq_false.1 h1 x hx
 exact Classical.byContradiction fun hne => h2 (decide_eq_true ⟨hc, hne⟩)
theorem sortM_mem {p q : List Opr} {x : Opr} : x ∈ ssort cmpO (p ++ q) ↔ x ∈ p ∨ x ∈ q := by rw [ssort_mem, List.mem_append]
theorem outM_mem {p q : List Opr} {x : Opr} : x ∈ outM p q ↔ x ∈ p ∨ x ∈ q := by unfold outM; rw [ddG_mem, sortM_mem]
theorem sortM_ord (p q : List Opr) : Ord cmpO (ssort cmpO (p ++ q)) := ssort_ord (swoO fun _ => True) fun _ _ => trivial
theorem outM_pw {p q : List Opr} (hp : ActOk p) (hq : ActOk q) (h : cfB p q = false) : (outM p q).Pairwise fun a b => cmpO a b < 0 := by
 refine dd_pw _ _ rfl (sortM_ord p q) fun x hx y hy hc => ?_
 have han := cmpO_anti x y
 rcases sortM_mem.1 hx with hx | hx <;> rcases sortM_mem.1 hy with hy | hy
 ·exact pw_uniq (act_pw hp) hx hy hc
 ·exact cf_no h hx hy (by omega)
 ·exact (cf_no h hy hx hc).symm
 ·exact pw_uniq (act_pw hq) hx hy hc
/-- Where two acts are in conflict, two neighbours are. -/
theorem outM_cf {p q : List Opr} (h : cfB p q = true) : ∃ i, i + 1 < (outM p q).length ∧ cmpO ((outM p q).getD (i + 1) default) ((outM p q).getD i default) = 0 := by
 have ho : Ord cmpO (outM p q) := (sortM_ord p q).sublist (ddG_sub _ _ rfl)
 obtain ⟨y, hy, h1⟩ := List.any_eq_true.1 h
 obtain ⟨x, hx, h2⟩ := List.any_eq_true.1 h1
 obtain ⟨hc, hne⟩ := of_decide_eq_true h2
 obtain ⟨i, hi, ei⟩ := at_mem ((outM_mem (p := p) (q := q)).2 (.inl hx))
 obtain ⟨j, hj, ej⟩ := at_mem ((outM_mem (p := p) (q := q)).2 (.inr hy))
 rw [← ei, ← ej] at hc hne
 clear h h1 h2 ei ej hx hy
 generalize outM p q = o at *
 have key : ∀ i j, i < j → j < o.length → cmpO (o.getD i default) (o.getD j default) = 0 → ∃ i, i + 1 < o.length ∧ cmpO (o.getD (i + 1) default) (o.getD i default) = 0 := by
  intro i j hij hj hc
  refine ⟨i, by omega, ?_⟩
  have han := cmpO_anti (o.getD (i + 1) default) (o.getD i default)
  have g1 : ¬cmpO (o.getD (i + 1) default) (o.getD i default) < 0 := ord_at ho (by omega) (by omega)
  have g2 : ¬cmpO (o.getD i default) (o.getD (i + 1) default) < 0 := by
   by_cases e : i + 1 = j
   ·rw [e]; omega
   ·intro g3
    exact (swoO fun _ => True).ntr _ _ _ trivial trivial trivial (cmpO_zero hc).1 (ord_at ho (by omega) hj : ¬cmpO (o.getD j default) (o.getD (i + 1) default) < 0) g3
  omega
 rcases Nat.lt_trichotomy i j with g | g | g
 ·exact key i j g hj (by have := cmpO_anti (o.getD i default) (o.getD j default); omega)
 ·subst g; exact absurd rfl hne
 ·exact key j i g hi hc
/-! ### the reference -/
def hasK (p : List Opr) (x : Opr) : Bool := p.any fun y => decide (cmpO x y = 0)
def refM (p q : List Opr) : List Opr := p ++ q.filter fun x => !hasK p x
theorem refM_mem {p q : List Opr} (h : cfB p q = false) {x : Opr} : x ∈ refM p q ↔ x ∈ p ∨ x ∈ q := by
 unfold refM
 rw [List.mem_append, List.mem_filter]
 constructor
 ·rintro (h | h)
  ·exact .inl h
  ·exact .inr h.1
 ·rintro (hx | hx)
  ·exact .inl hx
  ·cases hk : hasK p x with
   | false => exact .inr ⟨hx, rfl⟩
   | true =>
    obtain ⟨y, hy, hc⟩ := List.any_eq_true.1 hk
    have := cf_no h hy hx (of_decide_eq_true hc)
    exact .inl (this ▸ hy)
theorem refM_pw {p q : List Opr} (hp : ActOk p) (hq : ActOk q) : (refM p q).Pairwise fun x y => cmpO x y ≠ 0 := by
 unfold refM
 refine List.pairwise_append.2 ⟨(act_pw hp).imp fun h => by omega, ((act_pw hq).imp (S := fun x y => cmpO x y ≠ 0) fun h => by omega).sublist List.filter_sublist, fun x hx y hy hc => ?_⟩
 have h2 := (List.mem_filter.1 hy).2
 have : hasK p y = true := List.any_eq_true.2 ⟨x, hx, decide_eq_true (by have := cmpO_anti x y; omega)⟩
 rw [this] at h2
 cases h2
/-- What is sorted of it is what the program has. -/
theorem refM_sort {p q s : List Opr} (hp : ActOk p) (hq : ActOk q) (h : cfB p q = false) (hs : s.Perm (refM p q)) (ho : Ord cmpO s) : s = outM p q := by
 refine pw_ext s _ ?_ (outM_pw hp hq h) fun x => ?_
 ·have h1 : s.Pairwise fun x y => cmpO x y ≠ 0 := (hs.pairwise_iff fun {a b} hab => by have := cmpO_anti a b; omega).2 (refM_pw hp hq)
  refine (List.pairwise_and_iff.2 ⟨h1, ho⟩).imp fun {a b} ⟨h2, h3⟩ => ?_
  have := cmpO_anti a b
  have : ¬cmpO b a < 0 := h3
  omega
 ·rw [hs.mem_iff, refM_mem h, outM_mem]
end Go.Proofs.YtfgkpbkphmeigaaGreatDoor

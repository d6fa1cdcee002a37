
/-
 The order of acts; what is in order stays as it is.
-/
import Derived.Test.YtcagelfmngmocaaGreatDoorAc2
import Derived.Test.YtcagelfmngmocaaGreatDoorAst
namespace Go.Proofs.YtcagelfmngmocaaGreatDoor
open Go Go.Ai
set_option linter.unusedSimpArgs false
set_option linter.unusedVariables false
set_option maxHeartbeats 4000000
theorem cmpS_lt {a b : ByteArray} : cmpS a b < 0 ↔ ltS a b := by
 rcases cmpS_is a b with ⟨h, rfl⟩ | ⟨h, h'⟩ | ⟨h, h'⟩
 ·rw [h]; exact ⟨fun h => by omega, fun h => absurd h (ltS_irr _)⟩
 ·rw [h]; exact ⟨fun _ => h', fun _ => by omega⟩
 ·rw [h]; exact ⟨fun h => by omega, fun h2 => absurd h2 (ltS_asymm h')⟩
theorem cmpS_ne {a b : ByteArray} : cmpS a b ≠ 0 ↔ a ≠ b := by
 rcases cmpS_is a b with ⟨h, rfl⟩ | ⟨h, h'⟩ | ⟨h, h'⟩
 ·simp [h]
 ·rw [h]; exact ⟨fun _ e => ltS_irr b (e ▸ h'), fun _ => by omega⟩
 ·rw [h]; exact ⟨fun _ e => ltS_irr b (e ▸ h'), fun _ => by omega⟩
theorem cmpO_ltS (x y : Opr) : cmpO x y < 0 ↔ ltS x.b y.b ∨ (x.b = y.b ∧ x.no < y.no) := by
 unfold cmpO
 by_cases h : x.b = y.b
 ·rw [if_neg (by rw [cmpS_ne]; simp [h])]
  unfold cmpI
  constructor
  ·intro hi
   split at hi
   ·exact .inr ⟨h, by assumption⟩
   ·split at hi <;> omega
  ·rintro (hi | ⟨_, hi⟩)
   ·rw [h] at hi; exact absurd hi (ltS_irr _)
   ·rw [if_pos hi]; omega
 ·rw [if_pos (cmpS_ne.2 h), cmpS_lt]
  exact ⟨.inl, fun hh => hh.elim id fun hh => absurd hh.1 h⟩
theorem swoO (p : Opr → Prop) : Swo p cmpO where
 irr x _ h := by
  rcases (cmpO_ltS x x).1 h with h | ⟨_, h⟩
  ·exact ltS_irr _ h
  ·omega
 tr x y z _ _ _ h1 h2 := by
  refine (cmpO_ltS x z).2 ?_
  rcases (cmpO_ltS x y).1 h1 with h | ⟨e, h⟩ <;> rcases (cmpO_ltS y z).1 h2 with g | ⟨f, g⟩
  ·exact .inl (ltS_trans h g)
  ·exact .inl (f ▸ h)
  ·exact .inl (e ▸ g)
  ·exact .inr ⟨e.trans f, by omega⟩
 ntr x y z _ _ _ h1 h2 h3 := by
  rcases (cmpO_ltS x z).1 h3 with h | ⟨e, h⟩
  ·rcases ltS_or x.b y.b with g | g | g
   ·exact h1 ((cmpO_ltS x y).2 (.inl g))
   ·exact h2 ((cmpO_ltS y z).2 (.inl (g ▸ h)))
   ·exact h2 ((cmpO_ltS y z).2 (.inl (ltS_trans g h)))
  ·rcases ltS_or x.b y.b with g | g | g
   ·exact h1 ((cmpO_ltS x y).2 (.inl g))
   ·by_cases k : x.no < y.no
    ·exact h1 ((cmpO_ltS x y).2 (.inr ⟨g, k⟩))
    ·exact h2 ((cmpO_ltS y z).2 (.inr ⟨g.symm.trans e, by omega⟩))
   ·exact h2 ((cmpO_ltS y z).2 (.inl (e ▸ g)))
section
variable {α : Type} [Inhabited α]
theorem ssort_take {c : α → α → Int} {l : List α} (h : Ord c l) : ∀ k, k ≤ l.length → ssort c (l.take k) = l.take k
 | 0, _ => rfl
 | k + 1, hk => by
  rw [take_snoc (by omega), ssort_snoc, ssort_take h k (by omega)]
  have := mrg_last (c := c) (a := l.take k) (b := []) (y := l.getD k default) (fun x hx => by
   have e : l = l.take k ++ l.getD k default :: l.drop (k + 1) := by rw [← drop_here (by omega), List.take_append_drop]
   unfold Ord at h
   rw [e] at h
   exact (List.pairwise_append.1 h).2.2 x hx _ (by simp)) (fun x hx => by simp at hx)
  rw [List.append_nil] at this
  rw [this]
theorem ssort_self {c : α → α → Int} {l : List α} (h : Ord c l) : ssort c l = l := by
 have := ssort_take h l.length (Nat.le_refl _)
 rwa [List.take_length] at this
end
theorem up_lt {l : List Opr} (h : ∀ i, i + 1 < l.length → cmpO (l.getD i default) (l.getD (i + 1) default) < 0) : ∀ (d i : Nat), i + d + 1 < l.length → cmpO (l.getD i default) (l.getD (i + d + 1) default) < 0
 | 0, i, hi => h i hi
 | d + 1, i, hi => (swoO fun _ => True).tr _ (l.getD (i + d + 1) default) _ trivial trivial trivial (up_lt h d i (by omega)) (h (i + d + 1) (by omega))
theorem up_ord {l : List Opr} (h : ∀ i, i + 1 < l.length → cmpO (l.getD i default) (l.getD (i + 1) default) < 0) : Ord cmpO l := by
 unfold Ord
 rw [List.pairwise_iff_getElem]
 intro i j hi hj hij hlt
 have h1 := up_lt h (j - i - 1) i (by omega)
 rw [show i + (j - i - 1) + 1 = j by omega, List.getD_eq_getElem?_getD, List.getD_eq_getElem?_getD, List.getElem?_eq_getElem hi, List.getElem?_eq_getElem hj] at h1
 exact (swoO fun _ => True).irr _ trivial ((swoO fun _ => True).tr _ _ _ trivial trivial trivial h1 hlt)
/-- What a contract says of an empty list holds of nil. -/
theorem fc_nil {P : Program} {f : FuncId} {ext : Option (List Cel)} {args args' : List Val} {R : List Cel → Val → Prop} (h : FC P f ext args' R) (hl : args'.length = args.length)
  (ha : ∀ (i : Nat) (x y : Val), args[i]? = some x → args'[i]? = some y → x = y ∨ (x = .one (.g (.slice none 0 0)) ∧ ∃ fr z, y = .one (.sl fr z []))) : FC P f ext args R := by
 refine ⟨h.1, fun w okA g vs he hlen hv => h.2 w okA g vs he (by omega) fun i y u hy hu => ?_⟩
 have hi : i < args.length := by have := (List.getElem?_eq_some_iff.1 hy).1; omega
 have hx := hv i _ u (List.getElem?_eq_getElem hi) hu
 rcases ha i _ y (List.getElem?_eq_getElem hi) hy with rfl | ⟨hx', fr, z, rfl⟩
 ·exact hx
 ·rw [hx'] at hx
  cases hx with
  | one hx => obtain ⟨rfl, _⟩ := hx; exact .one .nil
end Go.Proofs.YtcagelfmngmocaaGreatDoor


/-
  Where a value is above a limit, and nowhere else: AboveIsAbove's function.
-/
import Derived.Test.YtggbcgldnjmobaaAbv
import Derived.Test.YtggbcgldnjmobaaStpb
namespace Go.Proofs.Ytggbcgldnjmobaa
open Go Go.Ai
set_option linter.unusedSimpArgs false
set_option linter.unusedVariables false
set_option maxHeartbeats 4000000

def sumL (L : Int) : List Pc → Int
  | [] => 0
  | p :: r => (if p.v ≤ L then 0 else p.t - p.f) + sumL L r
theorem abSum (L : Int) : ∀ (m : List Pc) (x : List (Int × Int) × Int), (m.foldl (abStep L) x).2 = x.2 + sumL L m
  | [], x => by simp [sumL]
  | p :: r, x => by
    rw [List.foldl_cons, abSum L r, sumL]
    unfold abStep
    by_cases h : p.v ≤ L
    · rw [if_pos h, if_pos h]; omega
    · rw [if_neg h, if_neg h]; simp only []; omega
theorem sumL_le (L : Int) : ∀ m : List Pc, (∀ p ∈ m, p.f < p.t) → sumL (L + 1) m ≤ sumL L m
  | [], _ => by simp [sumL]
  | p :: r, h => by
    have h1 := sumL_le L r (fun q hq => h q (by simp [hq]))
    have h2 := h p (by simp)
    rw [sumL, sumL]
    split <;> split <;> omega
theorem snoc_of {α : Type} {out : List α} (h : 1 ≤ out.length) : ∃ a b, out = a ++ [b] := by
  have hne : out ≠ [] := by intro h2; subst h2; simp at h
  exact ⟨out.dropLast, out.getLast hne, (List.dropLast_concat_getLast hne).symm⟩
theorem last_snoc (a : List (Int × Int)) (b : Int × Int) : (a ++ [b]).getD (((a ++ [b]).length : Int) - 1).toNat default = b := by
  have : (((a ++ [b]).length : Int) - 1).toNat = a.length := by simp
  rw [this]; simp
theorem setTo_snoc (a : List (Int × Int)) (b : Int × Int) (t : Int) : setTo (a ++ [b]) t = a ++ [(b.1, t)] := by
  unfold setTo
  rw [last_snoc]
  have : (((a ++ [b]).length : Int) - 1).toNat = a.length := by simp
  rw [this]; simp
def inW (at_ : Int) (w : Int × Int) : Prop := w.1 ≤ at_ ∧ at_ < w.2
theorem ab_cover (L at_ : Int) : ∀ (m : List Pc) (x : List (Int × Int) × Int), (∀ p ∈ m, p.f < p.t) → (∀ w ∈ x.1, w.1 < w.2) →
    ((∃ w ∈ (m.foldl (abStep L) x).1, inW at_ w) ↔ (∃ w ∈ x.1, inW at_ w) ∨ ∃ p ∈ m, L < p.v ∧ p.f ≤ at_ ∧ at_ < p.t)
  | [], x, _, _ => by simp
  | p :: r, x, hm, hx => by
    have hp := hm p (by simp)
    have hr : ∀ q ∈ r, q.f < q.t := fun q hq => hm q (by simp [hq])
    rw [List.foldl_cons]
    have hx' : ∀ w ∈ (abStep L x p).1, w.1 < w.2 := by
      unfold abStep
      split
      · exact hx
      · simp only []
        split
        · rename_i h
          obtain ⟨a, b, hab⟩ := snoc_of h.1
          have h2 := h.2
          rw [hab, last_snoc] at h2
          rw [hab, setTo_snoc]
          have hb := hx b (by rw [hab]; simp)
          intro w hw
          simp only [List.mem_append, List.mem_cons, List.not_mem_nil, or_false] at hw
          rcases hw with hw | rfl
          · exact hx w (by rw [hab]; simp [hw])
          · simp only; omega
        · intro w hw
          simp only [List.mem_append, List.mem_cons, List.not_mem_nil, or_false] at hw
          rcases hw with hw | rfl
          · exact hx w hw
          · exact hp
    rw [ab_cover L at_ r _ hr hx']
    have key : (∃ w ∈ (abStep L x p).1, inW at_ w) ↔ (∃ w ∈ x.1, inW at_ w) ∨ (L < p.v ∧ p.f ≤ at_ ∧ at_ < p.t) := by
      unfold abStep
      by_cases h1 : p.v ≤ L
      · rw [if_pos h1]
        constructor
        · exact .inl
        · rintro (h | h)
          · exact h
          · omega
      · rw [if_neg h1]
        simp only []
        split
        · rename_i h
          obtain ⟨a, b, hab⟩ := snoc_of h.1
          have h2 := h.2
          rw [hab, last_snoc] at h2
          have hb := hx b (by rw [hab]; simp)
          rw [hab, setTo_snoc]
          simp only [List.mem_append, List.mem_cons, List.not_mem_nil, or_false]
          constructor
          · rintro ⟨w, hw | rfl, hi⟩
            · exact .inl ⟨w, .inl hw, hi⟩
            · unfold inW at hi
              simp only at hi
              by_cases h3 : at_ < b.2
              · exact .inl ⟨b, .inr rfl, hi.1, h3⟩
              · exact .inr ⟨by omega, by omega, hi.2⟩
          · rintro (⟨w, hw | rfl, hi⟩ | ⟨_, h4, h5⟩)
            · exact ⟨w, .inl hw, hi⟩
            · unfold inW at hi
              exact ⟨(w.1, p.t), .inr rfl, hi.1, by simp only; omega⟩
            · exact ⟨(b.1, p.t), .inr rfl, by simp only; omega, h5⟩
        · simp only [List.mem_append, List.mem_cons, List.not_mem_nil, or_false]
          constructor
          · rintro ⟨w, hw | rfl, hi⟩
            · exact .inl ⟨w, hw, hi⟩
            · exact .inr ⟨by omega, hi.1, hi.2⟩
          · rintro (⟨w, hw, hi⟩ | ⟨_, h4, h5⟩)
            · exact ⟨w, .inl hw, hi⟩
            · exact ⟨(p.f, p.t), .inr rfl, h4, h5⟩
    rw [key]
    simp only [List.mem_cons]
    constructor
    · rintro ((h | h) | ⟨q, hq, h⟩)
      · exact .inl h
      · exact .inr ⟨p, .inl rfl, h⟩
      · exact .inr ⟨q, .inr hq, h⟩
    · rintro (h | ⟨q, rfl | hq, h⟩)
      · exact .inl (.inl h)
      · exact .inl (.inr h)
      · exact .inr ⟨q, hq, h⟩
theorem lastLe_gt (at_ : Int) : ∀ (l : List Smp) (o : Option Smp), (∀ x ∈ l, at_ < x.a) → lastLe at_ o l = o
  | [], o, _ => rfl
  | x :: r, o, h => by
    have h1 := h x (by simp)
    rw [lastLe, if_neg (by omega)]
    exact lastLe_gt at_ r o (fun y hy => h y (by simp [hy]))
theorem serGo_gt : ∀ (l : List Smp) (x : Smp), serGo (some x) l = 0 → ∀ y ∈ l, x.a < y.a
  | [], x, _, y, hy => by cases hy
  | z :: r, x, h, y, hy => by
    obtain ⟨h1, h2, h3⟩ := serGo_c.1 h
    have h4 := h2 x rfl
    simp only [List.mem_cons] at hy
    rcases hy with rfl | hy
    · exact h4
    · have := serGo_gt r z h3 y hy; omega
/-- The pieces of a window cover each moment with the sample that counts. -/
theorem pcs_cover (f t at_ : Int) (hf : f ≤ at_) (ht : at_ < t) (C : Int → Int → Prop) : ∀ (l : List Smp) (o : Option Smp), serGo o l = 0 →
    ((∃ p ∈ pcsGo f t l, (p.f ≤ at_ ∧ at_ < p.t) ∧ C p.v p.q) ↔ ∃ s, lastLe at_ none l = some s ∧ C s.v s.q)
  | [], o, _ => by simp [pcsGo, lastLe]
  | [s], o, _ => by
    rw [pcsGo, lastLe, lastLe]
    by_cases h : s.a ≤ at_
    · rw [if_pos (by omega), if_pos h]
      constructor
      · rintro ⟨p, hp, h1, h2⟩
        simp only [List.mem_cons, List.not_mem_nil, or_false] at hp
        subst hp
        exact ⟨s, rfl, h2⟩
      · rintro ⟨x, hx, h2⟩
        injection hx with hx; subst hx
        exact ⟨_, by simp only [List.mem_cons, List.not_mem_nil, or_false]; rfl, ⟨by simp only; omega, ht⟩, h2⟩
    · rw [if_neg h]
      constructor
      · rintro ⟨p, hp, h1, h2⟩
        split at hp
        · simp only [List.mem_cons, List.not_mem_nil, or_false] at hp
          subst hp
          simp only at h1
          omega
        · cases hp
      · rintro ⟨x, hx, _⟩; cases hx
  | s :: s' :: r, o, hs => by
    obtain ⟨_, _, h3⟩ := serGo_c.1 hs
    have h4 := (serGo_c.1 h3).2.1 s rfl
    have ih := pcs_cover f t at_ hf ht C (s' :: r) (some s) h3
    rw [pcsGo]
    by_cases h5 : s'.a ≤ at_
    · have e : lastLe at_ none (s :: s' :: r) = lastLe at_ none (s' :: r) := by
        rw [lastLe, lastLe, lastLe, if_pos h5, if_pos h5]
      rw [e, ← ih]
      constructor
      · rintro ⟨p, hp, h1, h2⟩
        rw [List.mem_append] at hp
        rcases hp with hp | hp
        · split at hp
          · simp only [List.mem_cons, List.not_mem_nil, or_false] at hp
            subst hp
            simp only at h1
            omega
          · cases hp
        · exact ⟨p, hp, h1, h2⟩
      · rintro ⟨p, hp, h1, h2⟩
        exact ⟨p, by rw [List.mem_append]; exact .inr hp, h1, h2⟩
    · have hgt : ∀ x ∈ s' :: r, at_ < x.a := fun x hx => by
        simp only [List.mem_cons] at hx
        rcases hx with rfl | hx
        · omega
        · have := serGo_gt r s' (serGo_c.1 h3).2.2 x hx; omega
      have e2 : lastLe at_ none (s' :: r) = none := lastLe_gt at_ _ _ hgt
      have hno : ¬ ∃ p ∈ pcsGo f t (s' :: r), (p.f ≤ at_ ∧ at_ < p.t) ∧ C p.v p.q := by
        rw [ih, e2]; rintro ⟨x, hx, _⟩; cases hx
      rw [lastLe, lastLe_gt at_ _ _ hgt]
      by_cases h : s.a ≤ at_
      · rw [if_pos h, if_pos (by omega)]
        constructor
        · rintro ⟨p, hp, h1, h2⟩
          simp only [List.mem_append, List.mem_cons, List.not_mem_nil, or_false] at hp
          rcases hp with rfl | hp
          · exact ⟨s, rfl, h2⟩
          · exact absurd ⟨p, hp, h1, h2⟩ hno
        · rintro ⟨x, hx, h2⟩
          injection hx with hx; subst hx
          exact ⟨⟨max f s.a, min t s'.a, s.v, s.q⟩, by simp, ⟨by simp only; omega, by simp only; omega⟩, h2⟩
      · rw [if_neg h]
        constructor
        · rintro ⟨p, hp, h1, h2⟩
          rw [List.mem_append] at hp
          rcases hp with hp | hp
          · split at hp
            · simp only [List.mem_cons, List.not_mem_nil, or_false] at hp
              subst hp
              simp only at h1
              omega
            · cases hp
          · exact absurd ⟨p, hp, h1, h2⟩ hno
        · rintro ⟨x, hx, _⟩; cases hx
def inB (at_ : Int) (w : Int × Int) : Bool := decide (w.1 ≤ at_) && decide (at_ < w.2)
theorem idxG_any {α : Type} [Inhabited α] (p : α → Bool) (l : List α) : decide (idxG p 0 l ≥ 0) = l.any p := by
  rcases idxG_spec p l 0 (by omega) with ⟨h1, h2⟩ | ⟨h1, h2, h3, _⟩
  · rw [h1]
    have : l.any p = false := by rw [List.any_eq_false]; intro x hx; rw [h2 x hx]; simp
    rw [this]; rfl
  · have : l.any p = true := List.any_eq_true.2 ⟨_, getD_mem l _ (by omega), h3⟩
    rw [this]; simp [h1]
def abvB (lim : Int) (l : List Smp) (at_ : Int) : Bool := match lastLe at_ none l with
  | none => false
  | some p => decide (¬p.q = 2 ∧ p.v > lim)
theorem abv_eq (lim f t at_ : Int) (hf : f ≤ at_) (ht : at_ < t) (l : List Smp) (hs : serFault l = 0) : (abW lim f t l).1.any (inB at_) = abvB lim l at_ := by
  have hg := good_of hs
  have hok := vals_ok f t hg
  have h1 := ab_cover lim at_ (vals f t l) ([], 0) (fun p hp => (hok p hp).2.1) (by simp)
  have h2 := pcs_cover f t at_ hf ht (fun v q => ¬q = 2 ∧ v > lim) l none (serFault_ok hs).2
  have h3 : ((abW lim f t l).1.any (inB at_) = true) ↔ abvB lim l at_ = true := by
    rw [List.any_eq_true]
    have e1 : (∃ x, x ∈ (abW lim f t l).1 ∧ inB at_ x = true) ↔ ∃ w ∈ (abW lim f t l).1, inW at_ w := by
      constructor
      · rintro ⟨w, hw, h⟩; exact ⟨w, hw, by unfold inB at h; unfold inW; simpa using h⟩
      · rintro ⟨w, hw, h⟩; exact ⟨w, hw, by unfold inB; unfold inW at h; simpa using h⟩
    rw [e1]
    unfold abW
    rw [h1]
    have e2 : abvB lim l at_ = true ↔ ∃ s, lastLe at_ none l = some s ∧ ¬s.q = 2 ∧ s.v > lim := by
      unfold abvB
      cases lastLe at_ none l with
      | none => simp
      | some p => simp
    rw [e2, ← h2]
    constructor
    · rintro (⟨w, hw, _⟩ | ⟨p, hp, h4, h5⟩)
      · cases hw
      · unfold vals at hp
        rw [List.mem_filter] at hp
        exact ⟨p, hp.1, h5, by simpa using hp.2, h4⟩
    · rintro ⟨p, hp, h4, h5, h6⟩
      exact .inr ⟨p, by unfold vals; rw [List.mem_filter]; exact ⟨hp, by simpa using h5⟩, h6, h4⟩
  cases h4 : (abW lim f t l).1.any (inB at_) <;> cases h5 : abvB lim l at_ <;> simp_all
end Go.Proofs.Ytggbcgldnjmobaa


/-
  Moments that are mapped: the beginning of a phase to a beginning, and to the same batch each to itself. Plain Lean.
-/
import Derived.Test.YtggbcgldnjmobaaMap
namespace Go.Proofs.Ytggbcgldnjmobaa
open Go Go.Ai
set_option linter.unusedSimpArgs false
set_option linter.unusedVariables false
set_option maxHeartbeats 4000000
theorem fch_ltM : ∀ {l : List (Int × Int)} {lo : Int}, Fch lo l → ∀ i j : Nat, i < j → j < l.length → (l.getD i default).2 ≤ (l.getD j default).1
  | [], _, _, i, j, _, hj => by simp at hj
  | x :: r, lo, h, 0, j + 1, _, hj => by
    have h1 := Fch.ge h.2.2.2 ((x :: r).getD (j + 1) default) (by
      have : (x :: r).getD (j + 1) default = r.getD j default := rfl
      rw [this]
      exact getD_mem r j (by simp at hj; omega))
    exact h1.1
  | x :: r, lo, h, i + 1, j + 1, hij, hj => fch_ltM h.2.2.2 i j (by omega) (by simp at hj; omega)
theorem ph_ltM {p : List Ph} (h : Fch 0 (p.map winP)) {i j : Nat} (hij : i < j) (hj : j < p.length) : (p.getD i default).t ≤ (p.getD j default).f := by
  have := fch_ltM h i j hij (by simpa using hj)
  rw [getD_map_in winP p i default (by omega), getD_map_in winP p j default hj] at this
  exact this
/-- The beginning of a phase lies in that phase and in no earlier one. -/
theorem idx_from {p : List Ph} (h : phF p = 0) (k : Nat) (hk : k < p.length) : idxG (inPh (p.getD k default).f) 0 p = k := by
  have hf := (phF_ok h).2
  have hg := ph_ge hf hk
  have hin : inPh (p.getD k default).f (p.getD k default) = true := by unfold inPh; exact decide_eq_true (by omega)
  rcases idxG_spec (inPh (p.getD k default).f) p 0 (by omega) with ⟨h1, h2⟩ | ⟨h1, h2, h3, h4⟩
  · rw [h2 _ (getD_mem p k hk)] at hin; cases hin
  · generalize idxG (inPh (p.getD k default).f) 0 p = i at *
    rw [show (i - 0).toNat = i.toNat by omega] at h3
    have c1 : ¬(k : Int) < i := fun hc => by
      have := h4 k (by omega)
      rw [hin] at this; cases this
    have c2 : ¬i < (k : Int) := fun hc => by
      have h5 := ph_ltM hf (i := i.toNat) (j := k) (by omega) hk
      unfold inPh at h3
      have := of_decide_eq_true h3
      omega
    omega
/-- The beginning of a phase is mapped to the beginning of the phase with the same number. -/
theorem mp_from {p q : List Ph} (hp : phF p = 0) (hq : phF q = 0) (k : Nat) (hk : k < p.length) :
    mpSp p q (p.getD k default).f = if k < q.length ∧ (q.getD k default).n = (p.getD k default).n then ((q.getD k default).f, true, 0) else (0, false, 0) := by
  have hg := ph_ge (phF_ok hp).2 hk
  have e := idx_from hp k hk
  unfold mpSp
  rw [hp, hq, if_neg (by decide), if_neg (by omega)]
  unfold mpV
  simp only [e, Int.toNat_natCast]
  by_cases c : k < q.length ∧ (q.getD k default).n = (p.getD k default).n
  · rw [if_pos c, if_neg (show ¬((k : Int) < 0 ∨ (k : Int) ≥ q.length ∨ ¬(q.getD k default).n = (p.getD k default).n) by omega)]
    simp
  · rw [if_neg c, if_pos (show (k : Int) < 0 ∨ (k : Int) ≥ q.length ∨ ¬(q.getD k default).n = (p.getD k default).n by omega)]
/-- To the same batch a moment is mapped to itself. -/
theorem mp_self {p : List Ph} (hp : phF p = 0) {at_ : Int} (h : 0 ≤ at_ ∧ at_ ≤ 345686399999) : (mpSp p p at_).2.2 = 0 ∧ ((mpSp p p at_).2.1 = true → (mpSp p p at_).1 = at_) := by
  unfold mpSp
  rw [hp, if_neg (by decide), if_neg (by omega)]
  refine ⟨rfl, ?_⟩
  unfold mpV
  simp only
  rcases idxG_spec (inPh at_) p 0 (by omega) with ⟨h1, h2⟩ | ⟨h1, h2, h3, h4⟩
  · rw [h1, if_pos (by omega)]
    exact fun h => (by cases h)
  · generalize idxG (inPh at_) 0 p = i at *
    have hg := ph_ge (phF_ok hp).2 (i := i.toNat) (by omega)
    rw [if_neg (by simp; omega)]
    intro _
    rw [Int.mul_ediv_cancel _ (by omega)]
    simp only
    omega
end Go.Proofs.Ytggbcgldnjmobaa

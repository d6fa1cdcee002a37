
/-
 The fewest steps from each place to the last: plain Lean.
-/
import Derived.Test.YtiiblflmfadmbaaFit
namespace Go.Proofs.Ytiiblflmfadmbaa
open Go Go.Ai
set_option linter.unusedSimpArgs false
set_option linter.unusedVariables false
set_option maxHeartbeats 4000000
section
variable {jn : Int → Int → Bool} {nf ff nf' ff' : Int → Int} {n i j k e : Int}
/-- From j the step to nf j is the best of those up to e. -/
structure BestAt (jn : Int → Int → Bool) (nf ff : Int → Int) (j e : Int) : Prop where
 gt : j < nf j
 lt : nf j < e
 jd : jn j (nf j) = true
 eq : ff j = ff (nf j) + 1
 best : ∀ k, j < k → k < e → jn j k = true → ff (nf j) ≤ ff k ∧ (ff k = ff (nf j) → nf j ≤ k)
theorem BestAt.congr (h : BestAt jn nf ff j e) (hn : ∀ t, j ≤ t → nf' t = nf t) (hf : ∀ t, j ≤ t → ff' t = ff t) : BestAt jn nf' ff' j e := by
 have h1 := hn j (by omega)
 have h0 := h.gt
 refine ⟨by rw [h1]; exact h.gt, by rw [h1]; exact h.lt, by rw [h1]; exact h.jd, by rw [h1, hf j (by omega), hf _ (by omega)]; exact h.eq, fun k hk hke hj => ?_⟩
 rw [h1, hf _ (by omega), hf k (by omega)]
 exact h.best k hk hke hj
structure Opt (n : Int) (jn : Int → Int → Bool) (nf ff : Int → Int) (i : Int) : Prop where
 fb : ∀ j, i < j → j < n → 1 ≤ ff j ∧ ff j ≤ n - j
 last : ff (n - 1) = 1
 st : ∀ j, i < j → j + 1 < n → BestAt jn nf ff j n
 z : ∀ j, 0 ≤ j → j ≤ i → nf j = 0
structure Inn (n : Int) (jn : Int → Int → Bool) (nf ff : Int → Int) (i k : Int) : Prop where
 fb : ∀ j, i < j → j < n → 1 ≤ ff j ∧ ff j ≤ n - j
 last : ff (n - 1) = 1
 st : ∀ j, i < j → j + 1 < n → BestAt jn nf ff j n
 z : ∀ j, 0 ≤ j → j < i → nf j = 0
 at_ : (nf i = 0 ∧ ∀ k', i < k' → k' < k → jn i k' = false) ∨ BestAt jn nf ff i k
theorem Opt.inn (h : Opt n jn nf ff i) (hi : 0 ≤ i) : Inn n jn nf ff i (i + 1) :=
 ⟨h.fb, h.last, h.st, fun j h1 h2 => h.z j h1 (by omega), .inl ⟨h.z i hi (by omega), fun k' h1 h2 => by omega⟩⟩
theorem Inn.opt (h : Inn n jn nf ff i n) (hi : 0 ≤ i) (hn : i + 1 < n) (h1 : jn i (i + 1) = true) : Opt n jn nf ff (i - 1) := by
 have hb : BestAt jn nf ff i n := by
  rcases h.at_ with ⟨_, h2⟩ | h2
  ·have := h2 (i + 1) (by omega) hn; rw [h1] at this; cases this
  ·exact h2
 refine ⟨fun j h2 h3 => ?_, h.last, fun j h2 h3 => ?_, fun j h2 h3 => h.z j h2 (by omega)⟩
 ·by_cases e : j = i
  ·subst e
   have := h.fb (nf j) hb.gt hb.lt
   have := hb.eq
   have := hb.gt
   omega
  ·exact h.fb j (by omega) h3
 ·by_cases e : j = i
  ·subst e; exact hb
  ·exact h.st j (by omega) h3
theorem BestAt.more (h : BestAt jn nf ff i k) (hk : jn i k = true → ff (nf i) ≤ ff k) : BestAt jn nf ff i (k + 1) := by
 have := h.lt
 refine ⟨h.gt, by omega, h.jd, h.eq, fun k' h1 h2 h3 => ?_⟩
 by_cases e : k' = k
 ·subst e; exact ⟨hk h3, fun _ => by omega⟩
 ·exact h.best k' h1 (by omega) h3
theorem Inn.skip1 (h : Inn n jn nf ff i k) (h0 : nf i ≠ 0) (h1 : ff (nf i) ≤ ff k) : Inn n jn nf ff i (k + 1) := by
 refine ⟨h.fb, h.last, h.st, h.z, .inr ?_⟩
 rcases h.at_ with ⟨h2, _⟩ | h2
 ·exact absurd h2 h0
 ·exact h2.more fun _ => h1
theorem Inn.skip2 (h : Inn n jn nf ff i k) (h1 : jn i k = false) : Inn n jn nf ff i (k + 1) := by
 refine ⟨h.fb, h.last, h.st, h.z, ?_⟩
 rcases h.at_ with ⟨h2, h3⟩ | h2
 ·refine .inl ⟨h2, fun k' h4 h5 => ?_⟩
  by_cases e : k' = k
  ·subst e; exact h1
  ·exact h3 k' h4 (by omega)
 ·exact .inr (h2.more fun h3 => by rw [h1] at h3; cases h3)
theorem Inn.take (h : Inn n jn nf ff i k) (hi : 0 ≤ i) (hik : i < k) (hn : i + 1 < n) (h1 : jn i k = true) (h2 : nf i = 0 ∨ ff k < ff (nf i)) (hnf : nf' i = k) (hff : ff' i = ff k + 1) (en : ∀ t, 0 ≤ t → t ≠ i → nf' t = nf t) (ef : ∀ t, 0 ≤ t → t ≠ i → ff' t = ff t) : Inn n jn nf' ff' i (k + 1) := by
 refine ⟨fun j h3 h4 => by rw [ef j (by omega) (by omega)]; exact h.fb j h3 h4, by rw [ef _ (by omega) (by omega)]; exact h.last, fun j h3 h4 => (h.st j h3 h4).congr (fun t ht => en t (by omega) (by omega)) (fun t ht => ef t (by omega) (by omega)), fun j h3 h4 => by rw [en j h3 (by omega)]; exact h.z j h3 h4, .inr ⟨by omega, by omega, by rw [hnf]; exact h1, by rw [hff, hnf, ef k (by omega) (by omega)], fun k' h3 h4 h5 => ?_⟩⟩
 rw [hnf, ef k (by omega) (by omega), ef k' (by omega) (by omega)]
 by_cases e : k' = k
 ·subst e; exact ⟨Int.le_refl _, fun _ => Int.le_refl _⟩
 ·rcases h.at_ with ⟨_, h6⟩ | h6
  ·have := h6 k' h3 (by omega); rw [h5] at this; cases this
  ·have := h6.best k' h3 (by omega) h5
   rcases h2 with h7 | h7
   ·have := h6.gt; omega
   ·exact ⟨by omega, fun h8 => by omega⟩
/-- A chain: each is joined to the one ahead; it ends at the last. -/
def chn (n : Int) (jn : Int → Int → Bool) : Int → List Int → Prop
 | a, [] => a = n - 1
 | a, b :: r => a < b ∧ b < n ∧ jn a b = true ∧ chn n jn b r
/-- No chain is shorter. -/
theorem Opt.least (h : Opt n jn nf ff (-1)) : ∀ (r : List Int) (a : Int), 0 ≤ a → a < n → chn n jn a r → ff a ≤ r.length + 1
 | [], a, h0, h1, hc => by
  have hc : a = n - 1 := hc
  rw [hc, h.last]; simp
 | b :: r, a, h0, h1, hc => by
  obtain ⟨h2, h3, h4, h5⟩ := hc
  have := h.least r b (by omega) h3 h5
  have hb := h.st a (by omega) (by omega)
  have h6 := (hb.best b h2 h3 h4).1
  have := hb.eq
  simp only [List.length_cons]
  omega
/-- Two lists of numbers: the first comes first, or they are one. -/
def lexLe : List Int → List Int → Prop
 | [], [] => True
 | a :: r, b :: s => a < b ∨ (a = b ∧ lexLe r s)
 | _, _ => False
/-- The path by the best steps. -/
def isP (n : Int) (nf : Int → Int) : Int → List Int → Prop
 | a, [] => a = n - 1
 | a, b :: r => a + 1 < n ∧ b = nf a ∧ isP n nf b r
theorem Opt.path (h : Opt n jn nf ff (-1)) : ∀ (r : List Int) (a : Int), 0 ≤ a → a < n → isP n nf a r → chn n jn a r ∧ ff a = r.length + 1
 | [], a, h0, h1, hp => by
  have hp : a = n - 1 := hp
  exact ⟨hp, by rw [hp, h.last]; simp⟩
 | b :: r, a, h0, h1, hp => by
  obtain ⟨h2, h3, h4⟩ := hp
  have hb := h.st a (by omega) h2
  have g1 := hb.gt
  have g2 := hb.lt
  rw [← h3] at g1 g2
  obtain ⟨h5, h6⟩ := h.path r b (by omega) g2 h4
  refine ⟨⟨g1, g2, by rw [h3]; exact hb.jd, h5⟩, ?_⟩
  have := hb.eq
  rw [← h3] at this
  simp only [List.length_cons]
  omega
theorem Opt.first (h : Opt n jn nf ff (-1)) : ∀ (r s : List Int) (a : Int), 0 ≤ a → a < n → isP n nf a r → chn n jn a s → r.length = s.length → lexLe r s
 | [], [], a, _, _, _, _, _ => trivial
 | [], b :: s, a, _, _, _, _, hl => by simp at hl
 | b :: r, [], a, _, _, _, _, hl => by simp at hl
 | b :: r, c :: s, a, h0, h1, hp, hc, hl => by
  obtain ⟨h2, h3, h4⟩ := hp
  obtain ⟨c1, c2, c3, c4⟩ := hc
  have hb := h.st a (by omega) h2
  have g1 := hb.gt
  have g2 := hb.lt
  have g3 := hb.best c c1 c2 c3
  have g4 := hb.eq
  rw [← h3] at g1 g2 g3 g4
  have l1 := h.least s c (by omega) c2 c4
  have l2 := (h.path r b (by omega) g2 h4).2
  simp only [List.length_cons, Nat.add_right_cancel_iff] at hl
  have e1 : ff c = ff b := by omega
  have e2 := g3.2 e1
  rcases Int.lt_or_eq_of_le e2 with e3 | e3
  ·exact .inl e3
  ·refine .inr ⟨e3, ?_⟩
   subst e3
   exact h.first r s b (by omega) g2 h4 c4 hl
theorem lex_anti : ∀ {r s : List Int}, lexLe r s → lexLe s r → r = s
 | [], [], _, _ => rfl
 | [], _ :: _, h, _ => h.elim
 | _ :: _, [], h, _ => h.elim
 | a :: r, b :: s, h1, h2 => by
  rcases h1 with h1 | ⟨h1, h3⟩
  ·rcases h2 with h2 | ⟨h2, _⟩ <;> omega
  ·rcases h2 with h2 | ⟨_, h4⟩
   ·omega
   ·rw [h1, lex_anti h3 h4]
theorem inn_ex (hi : 0 ≤ i) (hn : i + 1 < n) : ∀ (d : Nat) (k : Int) (nf ff : Int → Int), i < k → k + d = n → Inn n jn nf ff i k → ∃ nf' ff', Inn n jn nf' ff' i n
 | 0, k, nf, ff, _, he, h => by
  obtain rfl : k = n := by omega
  exact ⟨nf, ff, h⟩
 | d + 1, k, nf, ff, hik, he, h => by
  cases hb : jn i k with
  | false => exact inn_ex hi hn d (k + 1) nf ff (by omega) (by omega) (h.skip2 hb)
  | true =>
   by_cases c : nf i = 0 ∨ ff k < ff (nf i)
   ·exact inn_ex hi hn d (k + 1) (fun t => if t = i then k else nf t) (fun t => if t = i then ff k + 1 else ff t) (by omega) (by omega)
     (h.take hi hik hn hb c (if_pos rfl) (if_pos rfl) (fun t _ ht => if_neg ht) (fun t _ ht => if_neg ht))
   ·exact inn_ex hi hn d (k + 1) nf ff (by omega) (by omega) (h.skip1 (fun e => c (.inl e)) (Int.not_lt.1 fun e => c (.inr e)))
theorem opt_ex (hj : ∀ i, 0 ≤ i → i + 1 < n → jn i (i + 1) = true) (hn : 1 ≤ n) : ∀ c : Nat, (c : Int) ≤ n - 1 → ∃ nf ff, Opt n jn nf ff (n - 2 - c)
 | 0, _ => ⟨fun _ => 0, fun _ => 1, fun j h1 h2 => by omega, rfl, fun j h1 h2 => by omega, fun _ _ _ => rfl⟩
 | c + 1, hc => by
  obtain ⟨nf, ff, h⟩ := opt_ex hj hn c (by omega)
  obtain ⟨nf', ff', h'⟩ := inn_ex (i := n - 2 - c) (by omega) (by omega) (c + 1) (n - 2 - c + 1) nf ff (by omega) (by omega) (h.inn (by omega))
  have h2 := h'.opt (by omega) (by omega) (hj _ (by omega) (by omega))
  rw [show n - 2 - (c : Int) - 1 = n - 2 - ((c + 1 : Nat) : Int) by omega] at h2
  exact ⟨nf', ff', h2⟩
theorem path_ex (h : Opt n jn nf ff (-1)) : ∀ (d : Nat) (a : Int), 0 ≤ a → a < n → n - 1 - a ≤ d → ∃ r, isP n nf a r
 | 0, a, h0, h1, h2 => ⟨[], show a = n - 1 by omega⟩
 | d + 1, a, h0, h1, h2 => by
  by_cases e : a + 1 < n
  ·have hb := h.st a (by omega) e
   have g1 := hb.gt
   have g2 := hb.lt
   obtain ⟨r, hr⟩ := path_ex h d (nf a) (by omega) g2 (by omega)
   exact ⟨nf a :: r, e, rfl, hr⟩
  ·exact ⟨[], show a = n - 1 by omega⟩
end
/-- Row's cells as functions of numbers. -/
def ixf (N : List Int) (j : Int) : Int := N.getD j.toNat default
theorem ixf_set {N : List Int} {i x t : Int} (hi : 0 ≤ i) (hl : i < N.length) (ht : 0 ≤ t) : ixf (N.set i.toNat x) t = if t = i then x else ixf N t := by
 unfold ixf
 by_cases e : t = i
 ·subst e
  rw [if_pos rfl]
  simp [List.getD_eq_getElem?_getD, show t.toNat < N.length by omega]
 ·rw [if_neg e, List.getD_eq_getElem?_getD, List.getD_eq_getElem?_getD, List.getElem?_set_ne (by omega)]
end Go.Proofs.Ytiiblflmfadmbaa

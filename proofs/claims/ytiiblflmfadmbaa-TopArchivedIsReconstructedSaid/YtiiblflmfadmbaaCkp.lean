
/-
 What is archived comes one behind the other. Plain Lean.
-/
import Derived.Test.YtiiblflmfadmbaaStl
namespace Go.Proofs.Ytiiblflmfadmbaa
open Go Go.Ai
set_option linter.unusedSimpArgs false
set_option linter.unusedVariables false
set_option maxHeartbeats 4000000
theorem kpI_asc {o : List Int} {i : Int} (h : o.Pairwise (· < ·)) (hi : ∀ k ∈ o, k ≤ i) : (kpI o i).Pairwise (· < ·) ∧ ∀ k ∈ kpI o i, k ≤ i := by
 unfold kpI
 split
 ·rename_i hc
  refine ⟨List.pairwise_append.2 ⟨h, by simp, fun a ha b hb => ?_⟩, fun k hk => ?_⟩
  ·simp only [List.mem_singleton] at hb; subst hb
   obtain ⟨j, hj, rfl⟩ := List.mem_iff_getElem.1 ha
   have e : o.getD ((o.length : Int) - 1).toNat default = o[o.length - 1]'(by omega) := by
    rw [show ((o.length : Int) - 1).toNat = o.length - 1 by omega]
    simp [List.getD_eq_getElem?_getD, show o.length - 1 < o.length by omega]
   have h1 := hi (o[o.length - 1]'(by omega)) (List.getElem_mem _)
   have h2 : o[j] ≤ o[o.length - 1]'(by omega) := by
    by_cases e2 : j = o.length - 1
    ·subst e2; exact Int.le_refl _
    ·have := List.pairwise_iff_getElem.1 h j (o.length - 1) hj (by omega) (by omega); omega
   rcases hc with h3 | h3
   ·omega
   ·rw [e] at h3; omega
  ·rcases List.mem_append.1 hk with hk | hk
   ·exact hi k hk
   ·simp only [List.mem_singleton] at hk; omega
 ·exact ⟨h, hi⟩
theorem rs_asc (dv mg : Int) (l : List Smp) : ∀ i : Nat, i ≤ l.length → (rsRun dv mg l i).o.Pairwise (· < ·) ∧ ∀ k ∈ (rsRun dv mg l i).o, k ≤ (rsRun dv mg l i).p
 | 0, _ => ⟨by simp [rsRun], by simp [rsRun]⟩
 | i + 1, hi => by
  obtain ⟨h1, h2, h3, h4, h5, h6⟩ := rs_in dv mg l i (by omega)
  obtain ⟨a1, a2⟩ := rs_asc dv mg l i (by omega)
  have e0 : i = 0 → (rsRun dv mg l i).o = [] := fun e => by subst e; rfl
  rw [rsRun]
  generalize rsRun dv mg l i = x at *
  obtain ⟨b1, b2⟩ := kpI_asc a1 (i := x.h) (fun k hk => by have := a2 k hk; omega)
  unfold rsStep
  simp only
  split
  ·rename_i hz
   simp only [rsK]
   rw [e0 hz]
   exact kpI_asc (o := []) (by simp) (by simp)
  ·rename_i hz
   split
   ·simp only [rsK]
    exact kpI_asc b1 (fun k hk => by have := b2 k hk; have := h6 (by omega); omega)
   ·split
    ·simp only [rsK]; exact ⟨b1, b2⟩
    ·exact ⟨a1, a2⟩
theorem kf_asc (n : Int) : ∀ (l : List Int) (p : Option Int), l.Pairwise (· < ·) → (∀ k ∈ l, 0 ≤ k ∧ k < n) → (∀ y, p = some y → ∀ k ∈ l, y < k) → kfGo n p l = 0
 | [], _, _, _, _ => rfl
 | x :: r, p, h, hr, hp => by
  obtain ⟨h1, h2⟩ := List.pairwise_cons.1 h
  have hx := hr x (by simp)
  rw [kfGo, if_neg (by omega), if_neg]
  ·exact kf_asc n r (some x) h2 (fun k hk => hr k (by simp [hk])) (fun y hy k hk => by cases hy; exact h1 k hk)
  ·cases p with
   | none => simp [leO]
   | some y => have := hp y rfl x (by simp); simp [leO]; omega
theorem cof_asc {dv mg : Int} {l : List Smp} : (cofSp dv mg l).Pairwise (· < ·) := by
 obtain ⟨a1, a2⟩ := rs_asc dv mg l l.length (Nat.le_refl _)
 obtain ⟨h1, h2, h3, h4, h5, h6⟩ := rs_in dv mg l l.length (Nat.le_refl _)
 unfold cofSp
 split
 ·exact (kpI_asc a1 (fun k hk => by have := a2 k hk; omega)).1
 ·exact a1
theorem cof_kpt {dv mg : Int} {l : List Smp} (hs : serFault l = 0) (hd : 0 ≤ dv ∧ dv ≤ 2000000) : kptF l (cofSp dv mg l) = 0 := by
 obtain ⟨s1, s2, s3, s4⟩ := stream_is (mg := mg) (good_of hs) hd
 unfold kptF
 rw [if_neg (by omega), if_neg (by omega)]
 exact kf_asc _ _ none cof_asc s2 (fun y hy => by cases hy)
end Go.Proofs.Ytiiblflmfadmbaa

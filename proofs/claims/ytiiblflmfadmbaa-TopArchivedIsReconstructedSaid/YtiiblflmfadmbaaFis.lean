
/-
 What the reference archives is a chain: it fits. Plain Lean.
-/
import Derived.Test.YtiiblflmfadmbaaFip
import Derived.Test.YtiiblflmfadmbaaCkp
namespace Go.Proofs.Ytiiblflmfadmbaa
open Go Go.Ai
set_option linter.unusedSimpArgs false
set_option linter.unusedVariables false
set_option maxHeartbeats 4000000
section
variable {dv mg : Int} {l : List Smp}
/-- What the reference's words say of two samples joins them. -/
theorem jn_of (hg : Good l) (hd : 0 ≤ dv) {i k : Int} (h0 : 0 ≤ i) (hik : i < k) (hk : k < l.length) (hgap : (l.getD k.toNat default).a - (l.getD i.toNat default).a ≤ mg)
  (hq : ∀ t : Int, i < t → t ≤ k → (l.getD t.toNat default).q = (l.getD i.toNat default).q) (hc : (l.getD i.toNat default).q = 2 ∨ cvB dv l i k = true) : jnB dv mg l i k = true := by
 rw [jnB_iff h0 hk]
 refine .inr ⟨hgap, fun t h1 h2 => nrB_iff.2 ⟨hq t h1 h2, fun hap => ?_⟩⟩
 have hg2 := good_two hg (i := i.toNat) (k := k.toNat) (by omega) (by omega)
 have hqt := hq t h1 h2
 generalize ha : l.getD i.toNat default = a at *
 generalize hb : l.getD k.toNat default = b at *
 by_cases e : t = k
 ·subst e
  rw [hb] at hap hqt ⊢
  unfold apSp at hap ⊢
  rw [recSp_end hg2] at hap ⊢
  simp only at hap ⊢
  split
  ·simp
  ·simp only [Int.mul_one]; omega
 ·have u1 := hg.up i.toNat t.toNat (by omega) (by omega)
  have u2 := hg.up t.toNat k.toNat (by omega) (by omega)
  rw [ha] at u1
  rw [hb] at u2
  have hm := recSp_mid hg2 u1 u2
  rcases hc with hc | hc
  ·unfold apSp at hap
   rw [hm] at hap
   rw [if_pos (.inr (by omega))] at hap
   cases hap
  ·unfold cvB at hc
   rw [List.all_eq_true] at hc
   have hmem : l.getD t.toNat default ∈ (l.take k.toNat).drop (i + 1).toNat := by
    refine List.mem_of_getElem? (i := t.toNat - (i + 1).toNat) ?_
    rw [List.getElem?_drop, List.getElem?_take, if_pos (by omega), show (i + 1).toNat + (t.toNat - (i + 1).toNat) = t.toNat by omega]
    simp [List.getD_eq_getElem?_getD, show t.toNat < l.length by omega]
   have hn := hc _ hmem
   rw [ha, hb] at hn
   unfold nearB at hn
   have hn := of_decide_eq_true hn
   unfold apSp at hap ⊢
   rw [hm] at hap ⊢
   simp only at hap ⊢
   split
   ·rename_i hh; rw [if_pos hh] at hap; cases hap
   ·simp only
    unfold loV at hn
    unfold lineN
    generalize l.getD t.toNat default = s at *
    rw [Int.sub_mul] at hn
    generalize dv * (b.a - a.a) = D at *
    generalize s.v * (b.a - a.a) = S at *
    generalize a.v * (b.a - a.a) = A at *
    generalize (b.v - a.v) * (s.a - a.a) = B at *
    omega
/-- Each number is joined to the one ahead of it. -/
def CH (dv mg : Int) (l : List Smp) (o : List Int) : Prop := ∀ t : Nat, t + 1 < o.length → jnB dv mg l (o.getD t default) (o.getD (t + 1) default) = true
theorem getD_app {o : List Int} {x : List Int} {t : Nat} (h : t < o.length) : (o ++ x).getD t default = o.getD t default := by
 simp [List.getD_eq_getElem?_getD, List.getElem?_append_left h]
theorem ch_snoc {o : List Int} {p h : Int} (hc : CH dv mg l o) (h1 : o.length ≠ 0) (h2 : o.getD ((o.length : Int) - 1).toNat default = p) (hj : jnB dv mg l p h = true) : CH dv mg l (o ++ [h]) := fun t ht => by
 rw [List.length_append, List.length_singleton] at ht
 by_cases e : t + 1 < o.length
 ·rw [getD_app (by omega), getD_app e]; exact hc t e
 ·have e1 : t = ((o.length : Int) - 1).toNat := by omega
  have e2 : (o ++ [h]).getD (t + 1) default = h := by
   rw [show t + 1 = o.length by omega]; simp [List.getD_eq_getElem?_getD]
  rw [getD_app (by omega), e2, e1, h2]; exact hj
structure Rj (dv mg : Int) (l : List Smp) (x : Rs) (i : Nat) : Prop where
 ne : x.o.length ≠ 0
 la : x.o.getD ((x.o.length : Int) - 1).toNat default = x.p
 f0 : x.o.getD 0 default = 0
 ch : CH dv mg l x.o
 ph : 0 ≤ x.p ∧ x.p ≤ i
 hh : x.h = i
 qq : ∀ t : Int, x.p ≤ t → t ≤ i → (l.getD t.toNat default).q = (l.getD x.p.toNat default).q
 jj : x.p = i ∨ jnB dv mg l x.p i = true
theorem kpI_j {o : List Int} {p h : Int} (h1 : o.length ≠ 0) (h2 : o.getD ((o.length : Int) - 1).toNat default = p) (h3 : o.getD 0 default = 0) (hc : CH dv mg l o) (hj : p = h ∨ jnB dv mg l p h = true) :
  (kpI o h).length ≠ 0 ∧ (kpI o h).getD (((kpI o h).length : Int) - 1).toNat default = h ∧ (kpI o h).getD 0 default = 0 ∧ CH dv mg l (kpI o h) := by
 rw [kpI_at h1 h2]
 split
 ·rename_i e
  exact ⟨h1, by rw [h2, e], h3, hc⟩
 ·rename_i e
  obtain ⟨l1, l2⟩ := last_snoc o h
  refine ⟨l1, l2, ?_, ch_snoc hc h1 h2 (hj.resolve_left e)⟩
  rw [getD_app (by omega)]; exact h3
theorem rj_run (hg : Good l) (hd : 0 ≤ dv) : ∀ i : Nat, i < l.length → Rj dv mg l (rsRun dv mg l (i + 1)) i
 | 0, hi => by
  refine ⟨by simp [rsRun, rsStep, rsK, kpI], rfl, rfl, fun t ht => ?_, by simp [rsRun, rsStep, rsK], rfl, fun t h1 h2 => ?_, .inl rfl⟩
  ·simp [rsRun, rsStep, rsK, kpI] at ht
  ·have e : (rsRun dv mg l 1).p = 0 := rfl
   rw [e] at h1 ⊢
   obtain rfl : t = 0 := by omega
   rfl
 | i + 1, hi => by
  have H := rj_run hg hd i (by omega)
  have e : rsRun dv mg l (i + 1 + 1) = rsStep dv mg l (rsRun dv mg l (i + 1)) (i + 1) := rfl
  rw [e]
  generalize rsRun dv mg l (i + 1) = x at *
  obtain ⟨o, p, h⟩ := x
  obtain ⟨a1, a2, a3, a4, ⟨a5, a6⟩, a7, a8, a9⟩ := H
  simp only at a1 a2 a3 a4 a5 a6 a7 a8 a9
  subst a7
  obtain ⟨b1, b2, b3, b4⟩ := kpI_j a1 a2 a3 a4 a9
  have hnx : jnB dv mg l (i : Int) ((i + 1 : Nat) : Int) = true := by
   rw [jnB_iff (by omega) (by omega)]; exact .inl (by omega)
  have ht2 : ∀ t : Int, t ≤ ((i + 1 : Nat) : Int) → t ≤ i ∨ t = ((i + 1 : Nat) : Int) := fun t h => by omega
  have en : (((i + 1 : Nat) : Int)).toNat = i + 1 := by omega
  unfold rsStep
  rw [if_neg (by omega)]
  by_cases c1 : (l.getD (i + 1) default).q = (l.getD p.toNat default).q
  ·rw [if_neg (show ¬((l.getD (i + 1) default).q ≠ (l.getD p.toNat default).q) from fun h => h c1)]
   have hqi : (l.getD (i : Int).toNat default).q = (l.getD p.toNat default).q := a8 i a6 (Int.le_refl _)
   split
   ·refine ⟨b1, b2, b3, b4, ⟨by simp only [rsK]; omega, by simp only [rsK]; omega⟩, rfl, fun t h1 h2 => ?_, .inr hnx⟩
    simp only [rsK] at h1 ⊢
    rw [hqi]
    rcases ht2 t h2 with h3 | h3
    ·exact a8 t (by omega) h3
    ·rw [h3, en]; exact c1
   ·rename_i c2
    have hgap : (l.getD (i + 1) default).a - (l.getD p.toNat default).a ≤ mg := by
     rcases Int.lt_or_le mg ((l.getD (i + 1) default).a - (l.getD p.toNat default).a) with c | c
     ·refine absurd ?_ c2
      by_cases c3 : (l.getD (i + 1) default).q = 2
      ·exact .inl ⟨c3, c⟩
      ·exact .inr ⟨c3, .inl c⟩
     ·exact c
    refine ⟨a1, a2, a3, a4, ⟨a5, by simp only; omega⟩, rfl, fun t h1 h2 => ?_, .inr ?_⟩
    ·simp only at h1 ⊢
     rcases ht2 t h2 with h3 | h3
     ·exact a8 t h1 h3
     ·rw [h3, en]; exact c1
    ·simp only
     refine jn_of hg hd a5 (by omega) (by omega) (by rw [en]; exact hgap) (fun t h1 h2 => ?_) ?_
     ·rcases ht2 t h2 with h3 | h3
      ·exact a8 t (by omega) h3
      ·rw [h3, en]; exact c1
     ·by_cases c3 : (l.getD (i + 1) default).q = 2
      ·exact .inl (by omega)
      ·refine .inr ?_
       cases hcv : cvB dv l p ((i + 1 : Nat) : Int) with
       | true => rfl
       | false => exact absurd (.inr ⟨c3, .inr hcv⟩) c2
  ·rw [if_pos c1]
   obtain ⟨d1, d2, d3, d4⟩ := kpI_j b1 b2 b3 b4 (.inr hnx)
   refine ⟨d1, d2, d3, d4, ⟨by simp only [rsK]; omega, by simp only [rsK]; omega⟩, rfl, fun t h1 h2 => ?_, .inl rfl⟩
   simp only [rsK] at h1 ⊢
   obtain rfl : t = ((i + 1 : Nat) : Int) := by omega
   rfl
/-- What is archived is a chain. -/
theorem cof_chn (hg : Good l) (hd : 0 ≤ dv ∧ dv ≤ 2000000) (h0 : l.length ≠ 0) : ∃ s, cofSp dv mg l = 0 :: s ∧ chn l.length (jnB dv mg l) 0 s := by
 obtain ⟨n, hn⟩ : ∃ n, l.length = n + 1 := ⟨l.length - 1, by omega⟩
 have H := rj_run (mg := mg) hg hd.1 n (by omega)
 obtain ⟨_, s2, _, _⟩ := stream_is (mg := mg) hg hd
 have hasc := cof_asc (dv := dv) (mg := mg) (l := l)
 have hj := H.jj
 rw [← H.hh] at hj
 obtain ⟨k1, k2, k3, k4⟩ := kpI_j H.ne H.la H.f0 H.ch hj
 have e : cofSp dv mg l = kpI (rsRun dv mg l (n + 1)).o (rsRun dv mg l (n + 1)).h := by
  unfold cofSp; rw [if_pos (by omega), hn]
 have hh := H.hh
 rw [← e] at k1 k2 k3 k4
 cases hm : cofSp dv mg l with
 | nil => rw [hm] at k1; exact absurd rfl k1
 | cons a s =>
  rw [hm] at k2 k3 k4 s2 hasc
  have ha : a = 0 := k3
  subst ha
  refine ⟨s, rfl, chn_of s 0 (fun t ht => ⟨?_, ?_, k4 t (by simp; omega)⟩) ?_⟩
  ·have := List.pairwise_iff_getElem.1 hasc t (t + 1) (by simp; omega) (by simp; omega) (by omega)
   rw [List.getD_eq_getElem?_getD, List.getD_eq_getElem?_getD, List.getElem?_eq_getElem (show t < (0 :: s).length by simp; omega), List.getElem?_eq_getElem (show t + 1 < (0 :: s).length by simp; omega)]
   exact this
  ·rw [getD_cs]
   exact (s2 _ (List.mem_cons_of_mem _ (getD_mem s t ht))).2
  ·have e2 : (((0 :: s : List Int).length : Int) - 1).toNat = s.length := by simp
   rw [e2] at k2
   rw [k2, hh]; omega
end
end Go.Proofs.Ytiiblflmfadmbaa

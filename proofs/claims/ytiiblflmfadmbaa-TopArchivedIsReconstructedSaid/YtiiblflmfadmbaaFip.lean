
/-
 What fits is within the deviation; what is archived fits. Plain Lean.
-/
import Derived.Test.YtiiblflmfadmbaaMnp
namespace Go.Proofs.Ytiiblflmfadmbaa
open Go Go.Ai
set_option linter.unusedSimpArgs false
set_option linter.unusedVariables false
set_option maxHeartbeats 4000000
theorem recSp_end {a b : Smp} (hg : Good [a, b]) : recSp [a, b] b.a = ((b.v, 1), decide (b.q ≠ 2)) := by
 have h := hg.up 0 1 (by omega) (by simp)
 have h' : a.a < b.a := h
 have hp : pos [a, b] b.a = 1 := (pos_eq (l := [a, b]) (at_ := b.a) (k := 1) (by omega) (by simp) (fun j hj => by
  obtain rfl : j = 0 := by omega
  exact h') (fun j h1 h2 => by
  match j, h1, h2 with
  | 0, h1, _ => omega
  | 1, _, _ => exact Int.le_refl _
  | j + 2, _, h2 => exact absurd h2 (by simp only [List.length_cons, List.length_nil]; omega))).symm
 unfold recSp
 rw [hp, if_pos (by simp)]
 rfl
theorem recSp_mid {a b : Smp} (hg : Good [a, b]) {x : Int} (h1 : a.a < x) (h2 : x < b.a) : recSp [a, b] x = ((lineN a b x, b.a - a.a), decide (a.q ≠ 2) && decide (b.q ≠ 2)) := by
 have hp : pos [a, b] x = 1 := (pos_eq (l := [a, b]) (at_ := x) (k := 1) (by omega) (by simp) (fun j hj => by
  obtain rfl : j = 0 := by omega
  exact h1) (fun j h3 h4 => by
  match j, h3, h4 with
  | 0, h3, _ => omega
  | 1, _, _ => exact Int.le_of_lt h2
  | j + 2, _, h4 => exact absurd h4 (by simp only [List.length_cons, List.length_nil]; omega))).symm
 unfold recSp
 rw [hp, if_neg (by simp; omega), if_neg (by simp)]
 rfl
theorem nrB_iff {dv : Int} {a b s : Smp} : nrB dv a b s = true ↔ s.q = a.q ∧ ((apSp [a, b] s).2 = true → (apSp [a, b] s).1.1 ≤ dv * (apSp [a, b] s).1.2) := by
 unfold nrB
 simp only [Bool.and_eq_true, decide_eq_true_eq, Bool.not_eq_true', Bool.and_eq_false_iff, decide_eq_false_iff_not, Int.not_lt]
 constructor
 ·rintro ⟨h1, h2⟩
  refine ⟨h1, fun h3 => ?_⟩
  rcases h2 with h2 | h2
  ·rw [h3] at h2; cases h2
  ·omega
 ·rintro ⟨h1, h2⟩
  refine ⟨h1, ?_⟩
  cases hh : (apSp [a, b] s).2 with
  | false => exact .inl rfl
  | true => have := h2 hh; exact .inr (by omega)
section
variable {dv mg : Int} {l : List Smp}
theorem mem_seg {i k : Int} {s : Smp} (h0 : 0 ≤ i) (hk : k < l.length) : s ∈ (l.take (k + 1).toNat).drop (i + 1).toNat ↔ ∃ t : Int, i < t ∧ t ≤ k ∧ s = l.getD t.toNat default := by
 constructor
 ·intro h
  obtain ⟨j, hj, rfl⟩ := List.mem_iff_getElem.1 h
  rw [List.length_drop, List.length_take] at hj
  refine ⟨(i + 1) + j, by omega, by omega, ?_⟩
  rw [List.getElem_drop, List.getElem_take, show ((i + 1) + (j : Int)).toNat = (i + 1).toNat + j by omega]
  simp [List.getD_eq_getElem?_getD, show (i + 1).toNat + j < l.length by omega]
 ·rintro ⟨t, h1, h2, rfl⟩
  refine List.mem_of_getElem? (i := t.toNat - (i + 1).toNat) ?_
  rw [List.getElem?_drop, List.getElem?_take, if_pos (by omega), show (i + 1).toNat + (t.toNat - (i + 1).toNat) = t.toNat by omega]
  simp [List.getD_eq_getElem?_getD, show t.toNat < l.length by omega]
theorem jnB_iff {i k : Int} (h0 : 0 ≤ i) (hk : k < l.length) : jnB dv mg l i k = true ↔ k = i + 1 ∨ ((l.getD k.toNat default).a - (l.getD i.toNat default).a ≤ mg ∧ ∀ t : Int, i < t → t ≤ k → nrB dv (l.getD i.toNat default) (l.getD k.toNat default) (l.getD t.toNat default) = true) := by
 unfold jnB
 simp only [Bool.or_eq_true, decide_eq_true_eq, Bool.and_eq_true, List.all_eq_true]
 refine or_congr Iff.rfl (and_congr Iff.rfl ⟨fun h t h1 h2 => h _ ((mem_seg h0 hk).2 ⟨t, h1, h2, rfl⟩), fun h s hs => ?_⟩)
 obtain ⟨t, h1, h2, rfl⟩ := (mem_seg h0 hk).1 hs
 exact h t h1 h2
theorem getD_c0 {a : Int} {s : List Int} : (a :: s).getD 0 default = a := rfl
theorem getD_cs {a : Int} {s : List Int} {t : Nat} : (a :: s).getD (t + 1) default = s.getD t default := rfl
/-! ### chains, place by place -/
variable {n : Int} {jn : Int → Int → Bool}
theorem chn_of : ∀ (s : List Int) (a : Int), (∀ t : Nat, t < s.length → (a :: s).getD t default < (a :: s).getD (t + 1) default ∧ (a :: s).getD (t + 1) default < n ∧ jn ((a :: s).getD t default) ((a :: s).getD (t + 1) default) = true) → (a :: s).getD s.length default = n - 1 → chn n jn a s
 | [], a, _, h => h
 | b :: r, a, h, hl => by
  have h0 := h 0 (by simp)
  rw [getD_c0, getD_cs, getD_c0] at h0
  refine ⟨h0.1, h0.2.1, h0.2.2, chn_of r b (fun t ht => ?_) ?_⟩
  ·have := h (t + 1) (by simp; omega)
   rw [getD_cs, getD_cs] at this
   exact this
  ·rw [List.length_cons, getD_cs] at hl; exact hl
theorem chn_at : ∀ (s : List Int) (a : Int), chn n jn a s → (∀ t : Nat, t < s.length → (a :: s).getD t default < (a :: s).getD (t + 1) default ∧ (a :: s).getD (t + 1) default < n ∧ jn ((a :: s).getD t default) ((a :: s).getD (t + 1) default) = true) ∧ (a :: s).getD s.length default = n - 1
 | [], a, h => ⟨fun t ht => by simp at ht, h⟩
 | b :: r, a, h => by
  obtain ⟨h1, h2, h3, h4⟩ := h
  obtain ⟨i1, i2⟩ := chn_at r b h4
  refine ⟨fun t ht => ?_, by rw [List.length_cons, getD_cs]; exact i2⟩
  cases t with
  | zero => rw [getD_c0, getD_cs, getD_c0]; exact ⟨h1, h2, h3⟩
  | succ t => rw [getD_cs, getD_cs]; exact i1 t (by simp at ht; omega)
theorem chn_asc {s : List Int} {a : Int} (h : chn n jn a s) (i : Nat) : ∀ j : Nat, i < j → j ≤ s.length → (a :: s).getD i default < (a :: s).getD j default
 | 0, hij, _ => by omega
 | j + 1, hij, hj => by
  have h1 := ((chn_at s a h).1 j (by omega)).1
  by_cases e : i = j
  ·subst e; exact h1
  ·have := chn_asc h i j (by omega) (by omega); omega
theorem chn_rng {s : List Int} {a : Int} (h0 : 0 ≤ a) (h1 : a < n) (h : chn n jn a s) (j : Nat) (hj : j ≤ s.length) : a ≤ (a :: s).getD j default ∧ (a :: s).getD j default < n := by
 cases j with
 | zero => exact ⟨Int.le_refl _, h1⟩
 | succ j =>
  have h2 := chn_asc h 0 (j + 1) (by omega) hj
  rw [getD_c0] at h2
  exact ⟨by omega, ((chn_at s a h).1 j (by omega)).2.1⟩
theorem chn_len : ∀ (s : List Int) (a : Int), chn n jn a s → a + s.length ≤ n - 1
 | [], a, h => by have h : a = n - 1 := h; simp; omega
 | b :: r, a, h => by
  obtain ⟨h1, h2, h3, h4⟩ := h
  have := chn_len r b h4
  simp only [List.length_cons]; omega
theorem chn_find : ∀ (s : List Int) (a t : Int), chn n jn a s → a ≤ t → t < n → ∃ j : Nat, j ≤ s.length ∧ (a :: s).getD j default ≤ t ∧ (j = s.length ∨ (j < s.length ∧ t < (a :: s).getD (j + 1) default))
 | [], a, t, h, h1, h2 => ⟨0, Nat.le_refl _, h1, .inl rfl⟩
 | b :: r, a, t, h, h1, h2 => by
  obtain ⟨_, _, _, h4⟩ := h
  by_cases hb : t < b
  ·exact ⟨0, by simp, h1, .inr ⟨by simp, hb⟩⟩
  ·obtain ⟨j, j1, j2, j3⟩ := chn_find r b t h4 (by omega) h2
   refine ⟨j + 1, by simp; omega, by rw [getD_cs]; exact j2, ?_⟩
   rcases j3 with j3 | ⟨j3, j4⟩
   ·exact .inl (by simp [j3])
   ·exact .inr ⟨by simp; omega, by rw [getD_cs]; exact j4⟩
theorem chn_kf : ∀ (s : List Int) (a : Int), 0 ≤ a → chn n jn a s → kfGo n (some a) s = 0
 | [], _, _, _ => rfl
 | b :: r, a, h0, h => by
  obtain ⟨h1, h2, h3, h4⟩ := h
  rw [kfGo, if_neg (by omega), if_neg (by simp [leO]; omega)]
  exact chn_kf r b (by omega) h4
theorem chn_chB : ∀ (s : List Int) (a : Int), chn n (jnB dv mg l) a s → chB dv mg l a s = true
 | [], _, _ => rfl
 | b :: r, a, h => by
  obtain ⟨h1, h2, h3, h4⟩ := h
  rw [chB, h3, Bool.true_and]
  exact chn_chB r b h4
/-- A chain fits. -/
theorem chn_fit {s : List Int} (hs : serFault l = 0) (h0 : l.length ≠ 0) (h : chn l.length (jnB dv mg l) 0 s) : kptF l (0 :: s) = 0 ∧ fitB dv mg l (0 :: s) = true := by
 have hl := chn_len s 0 h
 obtain ⟨h1, h2⟩ := chn_at s 0 h
 constructor
 ·unfold kptF
  rw [if_neg (by omega), if_neg (by simp only [List.length_cons]; omega), kfGo, if_neg (by omega), if_neg (by simp [leO])]
  exact chn_kf s 0 (Int.le_refl _) h
 ·unfold fitB
  have e : (((0 :: s : List Int).length : Int) - 1).toNat = s.length := by simp
  rw [e, h2, getD_c0, if_neg h0, if_neg (by simp), if_neg (by simp), if_neg (by simp)]
  exact chn_chB s 0 h
theorem chB_at : ∀ (s : List Int) (a : Int), chB dv mg l a s = true → ∀ t : Nat, t < s.length → jnB dv mg l ((a :: s).getD t default) ((a :: s).getD (t + 1) default) = true
 | [], _, _, t, ht => by simp at ht
 | b :: r, a, h, t, ht => by
  rw [chB, Bool.and_eq_true] at h
  cases t with
  | zero => rw [getD_c0, getD_cs, getD_c0]; exact h.1
  | succ t => rw [getD_cs, getD_cs]; exact chB_at r b h.2 t (by simp at ht; omega)
/-- What fits is a chain. -/
theorem fit_chn {m : List Int} (h0 : l.length ≠ 0) (hk : kptF l m = 0) (hf : fitB dv mg l m = true) : ∃ s, m = 0 :: s ∧ chn l.length (jnB dv mg l) 0 s := by
 obtain ⟨h1, h2, h3⟩ := kptF_ok hk
 have h4 := (kf_lt _ m none h3).2
 have h5 := kfGo_ok _ m none h3
 unfold fitB at hf
 rw [if_neg h0] at hf
 by_cases c1 : m.length = 0
 ·rw [if_pos c1] at hf; cases hf
 rw [if_neg c1] at hf
 by_cases c2 : m.getD 0 default = 0
 ·rw [if_neg (show ¬(m.getD 0 default ≠ 0) from fun h => h c2)] at hf
  by_cases c3 : m.getD ((m.length : Int) - 1).toNat default = (l.length : Int) - 1
  ·rw [if_neg (show ¬(m.getD ((m.length : Int) - 1).toNat default ≠ (l.length : Int) - 1) from fun h => h c3)] at hf
   cases m with
   | nil => exact absurd rfl c1
   | cons a s =>
    rw [getD_c0] at c2 hf
    subst c2
    refine ⟨s, rfl, chn_of s 0 (fun t ht => ⟨h4 t (by simp; omega), ?_, chB_at s 0 hf t ht⟩) ?_⟩
    ·rw [getD_cs]
     exact (h5 _ (List.mem_cons_of_mem _ (getD_mem s t ht))).2
    ·have e : (((0 :: s : List Int).length : Int) - 1).toNat = s.length := by simp
     rw [e] at c3; exact c3
  ·rw [if_pos c3] at hf; cases hf
 ·rw [if_pos c2] at hf; cases hf
/-! ### within the deviation -/
theorem kep_getD {m : List Int} {j : Nat} (hj : j < m.length) : (kep l m).getD j default = l.getD (m.getD j default).toNat default := by
 unfold kep
 simp [List.getD_eq_getElem?_getD, hj]
theorem kep_good {s : List Int} (hg : Good l) (h0 : l.length ≠ 0) (h : chn l.length (jnB dv mg l) 0 s) : Good (kep l (0 :: s)) := by
 have hlen := hg.len
 have hl := chn_len s 0 h
 have hkl : (kep l (0 :: s)).length = s.length + 1 := by unfold kep; simp
 have hr := fun j hj => chn_rng (Int.le_refl 0) (by omega) h j hj
 refine ⟨by omega, fun i hi => ?_, fun i hi => ?_, fun i j hij hj => ?_⟩
 ·rw [kep_getD (by simp; omega)]
  have := hr i (by omega)
  exact hg.ok _ (by omega)
 ·rw [kep_getD (by simp; omega)]
  have := hr i (by omega)
  exact hg.bad _ (by omega)
 ·rw [kep_getD (by simp; omega), kep_getD (by simp; omega)]
  have h1 := hr i (by omega)
  have h2 := hr j (by omega)
  have h3 := chn_asc h i j hij (by omega)
  exact hg.up _ _ (by omega) (by omega)
theorem fit_dev {s : List Int} (hg : Good l) (hd : 0 ≤ dv) (h : chn l.length (jnB dv mg l) 0 s) (t : Int) (ht0 : 0 ≤ t) (ht : t < l.length) (hap : (apSp (kep l (0 :: s)) (l.getD t.toNat default)).2 = true) :
  (apSp (kep l (0 :: s)) (l.getD t.toNat default)).1.1 ≤ dv * (apSp (kep l (0 :: s)) (l.getD t.toNat default)).1.2 := by
 have h0 : l.length ≠ 0 := by omega
 have hK := kep_good hg h0 h
 have hkl : (kep l (0 :: s)).length = s.length + 1 := by unfold kep; simp
 have hr := fun j hj => chn_rng (Int.le_refl 0) (by omega) h j hj
 obtain ⟨j, j1, j2, j3⟩ := chn_find s 0 t h ht0 ht
 have hrj := hr j j1
 by_cases e : (0 :: s).getD j default = t
 ·have ek : (kep l (0 :: s)).getD j default = l.getD t.toNat default := by rw [kep_getD (by simp; omega), e]
  have hp : pos (kep l (0 :: s)) (l.getD t.toNat default).a = j := (pos_eq (k := (j : Int)) (by omega) (by omega) (fun i hi => by
   have := hK.up i j (by omega) (by omega)
   rw [ek] at this; exact this) (fun i hi hi2 => by
   have := hK.le j i (by omega) hi2
   rw [ek] at this; exact this)).symm
  have hrec : recSp (kep l (0 :: s)) (l.getD t.toNat default).a = (((l.getD t.toNat default).v, 1), decide ((l.getD t.toNat default).q ≠ 2)) := by
   unfold recSp
   rw [hp, show ((j : Nat) : Int).toNat = j by omega, ek, if_pos ⟨by omega, rfl⟩]
  unfold apSp at hap ⊢
  rw [hrec] at hap ⊢
  simp only at hap ⊢
  split
  ·simp
  ·simp only [Int.mul_one]; omega
 ·rcases j3 with j3 | ⟨j3, j4⟩
  ·have := (chn_at s 0 h).2
   rw [← j3] at this
   omega
  ·have hrk := hr (j + 1) (by omega)
   have hjn := ((chn_at s 0 h).1 j j3).2.2
   rw [jnB_iff (by omega) (by omega)] at hjn
   rcases hjn with hjn | ⟨_, hjn⟩
   ·omega
   ·have hn := hjn t (by omega) (by omega)
    rw [nrB_iff] at hn
    have hg2 := good_two hg (i := ((0 :: s).getD j default).toNat) (k := ((0 :: s).getD (j + 1) default).toNat) (by omega) (by omega)
    have ea := kep_getD (l := l) (m := 0 :: s) (j := j) (by simp; omega)
    have eb := kep_getD (l := l) (m := 0 :: s) (j := j + 1) (by simp; omega)
    have u1 := hg.up ((0 :: s).getD j default).toNat t.toNat (by omega) (by omega)
    have u2 := hg.up t.toNat ((0 :: s).getD (j + 1) default).toNat (by omega) (by omega)
    have hm := recSp_mid hg2 u1 u2
    have hp : pos (kep l (0 :: s)) (l.getD t.toNat default).a = j + 1 := (pos_eq (k := (j : Int) + 1) (by omega) (by omega) (fun i hi => by
     have := hK.le i j (by omega) (by omega)
     rw [ea] at this; omega) (fun i hi hi2 => by
     have := hK.le (j + 1) i (by omega) hi2
     rw [eb] at this; omega)).symm
    have hrec : recSp (kep l (0 :: s)) (l.getD t.toNat default).a = recSp [l.getD ((0 :: s).getD j default).toNat default, l.getD ((0 :: s).getD (j + 1) default).toNat default] (l.getD t.toNat default).a := by
     rw [hm]
     unfold recSp
     rw [hp, show ((j : Nat) : Int) + 1 - 1 = j by omega, show (((j : Nat) : Int) + 1).toNat = j + 1 by omega, show ((j : Nat) : Int).toNat = j by omega, ea, eb, if_neg (by omega), if_neg (by omega)]
    have hae : apSp (kep l (0 :: s)) (l.getD t.toNat default) = apSp [l.getD ((0 :: s).getD j default).toNat default, l.getD ((0 :: s).getD (j + 1) default).toNat default] (l.getD t.toNat default) := by
     unfold apSp
     rw [hrec]
    rw [hae] at hap ⊢
    exact hn.2 hap
theorem erGo_mem {k : List Smp} {Q : Int × Int → Prop} : ∀ (r : List Smp) (i : Int) (x : (Int × Int) × Int), 0 ≤ i → (0 ≤ x.2 → Q x.1) → (∀ s ∈ r, (apSp k s).2 = true → Q (apSp k s).1) → 0 ≤ (erGo k i x r).2 → Q (erGo k i x r).1
 | [], i, x, _, hx, _, h => hx h
 | s :: r, i, x, h0, hx, hr, h => by
  rw [erGo] at h ⊢
  refine erGo_mem r (i + 1) _ (by omega) ?_ (fun s' hs' => hr s' (by simp [hs'])) h
  unfold erStep
  split
  ·rename_i hc
   exact fun _ => hr s (by simp) hc.1
  ·exact hx
theorem low_le {n d dv : Int} (hd : 1 ≤ d) (h : n ≤ dv * d) : lowN n d ≤ dv * lowD n d := by
 have h1 := (low_win dv n d hd)
 rcases Int.lt_or_le (dv * lowD n d) (lowN n d) with c | c
 ·obtain ⟨e1, e2, e3, e4⟩ := low_eq n d hd
  have m := Int.mul_lt_mul_of_pos_left c (show 0 < lowG n d by omega)
  have e5 : lowG n d * (dv * lowD n d) = dv * (lowG n d * lowD n d) := by rw [Int.mul_left_comm]
  rw [e5, ← e2, ← e1] at m
  omega
 ·exact c
/-- The error is within the deviation. -/
theorem err_le {s : List Int} (hg : Good l) (hd : 0 ≤ dv) (h0 : l.length ≠ 0) (h : chn l.length (jnB dv mg l) 0 s) (he : (errSp l (0 :: s)).2.2 = 0) :
  (errSp l (0 :: s)).1.1 ≤ dv * (errSp l (0 :: s)).1.2 ∧ 1 ≤ (errSp l (0 :: s)).1.2 ∧ (errSp l (0 :: s)).1.2 ≤ 345686400000 := by
 have hK := kep_good hg h0 h
 unfold errSp at he ⊢
 by_cases c1 : kptF l (0 :: s) ≠ 0
 ·rw [if_pos c1] at he; exact absurd he c1
 rw [if_neg c1] at he ⊢
 by_cases c2 : (erGo (kep l (0 :: s)) 0 ((0, 0), -1) l).2 < 0
 ·rw [if_pos c2] at he; cases he
 rw [if_neg c2] at he ⊢
 have hq := erGo_mem (k := kep l (0 :: s)) (Q := fun x => x.1 ≤ dv * x.2 ∧ 0 ≤ x.1 ∧ 1 ≤ x.2 ∧ x.2 ≤ 345686400000) l 0 ((0, 0), -1) (by omega) (fun h => by simp at h) (fun x hx hap => by
  obtain ⟨i, hi, rfl⟩ := List.mem_iff_getElem.1 hx
  have e : l[i] = l.getD ((i : Int)).toNat default := by simp [List.getD_eq_getElem?_getD, hi]
  rw [e] at hap ⊢
  have b := apSp_bd hK (s := l.getD ((i : Int)).toNat default) (hg.ok _ (by omega)) hap
  exact ⟨fit_dev hg hd h i (by omega) (by omega) hap, b.1.1, b.2.1, b.2.2⟩) (by omega)
 obtain ⟨q1, q2, q3, q4⟩ := hq
 obtain ⟨e1, e2, e3, e4⟩ := low_eq (erGo (kep l (0 :: s)) 0 ((0, 0), -1) l).1.1 (erGo (kep l (0 :: s)) 0 ((0, 0), -1) l).1.2 q3
 refine ⟨low_le q3 q1, e4, ?_⟩
 simp only
 have m := Int.mul_le_mul_of_nonneg_right e3 (show 0 ≤ lowD (erGo (kep l (0 :: s)) 0 ((0, 0), -1) l).1.1 (erGo (kep l (0 :: s)) 0 ((0, 0), -1) l).1.2 by omega)
 omega
end
end Go.Proofs.Ytiiblflmfadmbaa

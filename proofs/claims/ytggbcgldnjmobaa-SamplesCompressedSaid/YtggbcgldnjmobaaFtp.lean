
/-
  What fits, in the reference's words. Plain Lean.
-/
import Derived.Test.YtggbcgldnjmobaaFip
import Derived.Test.YtggbcgldnjmobaaOff
namespace Go.Proofs.Ytggbcgldnjmobaa
open Go Go.Ai
set_option linter.unusedSimpArgs false
set_option linter.unusedVariables false
set_option maxHeartbeats 4000000
section
variable {dv mg : Int} {l : List Smp} {m : List Int}
/-- Right places: in order, and within. -/
theorem kpt_asc (hk : kptF l m = 0) (i : Nat) : ∀ j : Nat, i < j → j < m.length → m.getD i default < m.getD j default
  | 0, hij, _ => by omega
  | j + 1, hij, hj => by
    obtain ⟨_, _, h3⟩ := kptF_ok hk
    have h1 := (kf_lt _ m none h3).2 j hj
    by_cases e : i = j
    · subst e; exact h1
    · have := kpt_asc hk i j (by omega) (by omega); omega
theorem kpt_rng (hk : kptF l m = 0) (j : Nat) (hj : j < m.length) : 0 ≤ m.getD j default ∧ m.getD j default < l.length := by
  obtain ⟨_, _, h3⟩ := kptF_ok hk
  exact kfGo_ok _ m none h3 _ (getD_mem m j hj)
theorem kpt_good (hk : kptF l m = 0) : Good (kep l m) := by
  obtain ⟨hs, h2, h3⟩ := kptF_ok hk
  have hg := good_of hs
  have hlen := hg.len
  have hkl : (kep l m).length = m.length := by unfold kep; simp
  refine ⟨by omega, fun i hi => ?_, fun i hi => ?_, fun i j hij hj => ?_⟩
  · rw [kep_getD (by omega)]
    have := kpt_rng hk i (by omega)
    exact hg.ok _ (by omega)
  · rw [kep_getD (by omega)]
    have := kpt_rng hk i (by omega)
    exact hg.bad _ (by omega)
  · rw [kep_getD (by omega), kep_getD (by omega)]
    have h1 := kpt_rng hk i (by omega)
    have h2 := kpt_rng hk j (by omega)
    have h3 := kpt_asc hk i j hij (by omega)
    exact hg.up _ _ (by omega) (by omega)
theorem kpt_inj (hk : kptF l m = 0) {i j : Nat} (hi : i < m.length) (hj : j < m.length) (h : m.getD i default ≤ m.getD j default) : i ≤ j := by
  rcases Nat.lt_or_ge j i with c | c
  · have := kpt_asc hk j i c hi; omega
  · exact c
/-- A kept sample's own place. -/
theorem kep_at (hk : kptF l m = 0) {j : Nat} (hj : j < m.length) {t : Int} (e : m.getD j default = t) : recSp (kep l m) (l.getD t.toNat default).a = (((l.getD t.toNat default).v, 1), decide ((l.getD t.toNat default).q ≠ 2)) := by
  have hK := kpt_good hk
  have hkl : (kep l m).length = m.length := by unfold kep; simp
  have ek : (kep l m).getD j default = l.getD t.toNat default := by rw [kep_getD hj, e]
  have hp : pos (kep l m) (l.getD t.toNat default).a = j := (pos_eq (k := (j : Int)) (by omega) (by omega) (fun i hi => by
    have := hK.up i j (by omega) (by omega)
    rw [ek] at this; exact this) (fun i hi hi2 => by
    have := hK.le j i (by omega) hi2
    rw [ek] at this; exact this)).symm
  unfold recSp
  rw [hp, show ((j : Nat) : Int).toNat = j by omega, ek, if_pos ⟨by omega, rfl⟩]
/-- A place between two kept ones that are neighbours. -/
theorem kep_mid (hk : kptF l m = 0) {j : Nat} (hj : j + 1 < m.length) {t : Int} (h1 : m.getD j default < t) (h2 : t < m.getD (j + 1) default) :
    recSp (kep l m) (l.getD t.toNat default).a = recSp [l.getD (m.getD j default).toNat default, l.getD (m.getD (j + 1) default).toNat default] (l.getD t.toNat default).a ∧
    recSp [l.getD (m.getD j default).toNat default, l.getD (m.getD (j + 1) default).toNat default] (l.getD t.toNat default).a = ((lineN (l.getD (m.getD j default).toNat default) (l.getD (m.getD (j + 1) default).toNat default) (l.getD t.toNat default).a, (l.getD (m.getD (j + 1) default).toNat default).a - (l.getD (m.getD j default).toNat default).a), decide ((l.getD (m.getD j default).toNat default).q ≠ 2) && decide ((l.getD (m.getD (j + 1) default).toNat default).q ≠ 2)) := by
  obtain ⟨hs, _, _⟩ := kptF_ok hk
  have hg := good_of hs
  have hK := kpt_good hk
  have hkl : (kep l m).length = m.length := by unfold kep; simp
  have r1 := kpt_rng hk j (by omega)
  have r2 := kpt_rng hk (j + 1) hj
  have hg2 := good_two hg (i := (m.getD j default).toNat) (k := (m.getD (j + 1) default).toNat) (by omega) (by omega)
  have ea := kep_getD (l := l) (m := m) (j := j) (by omega)
  have eb := kep_getD (l := l) (m := m) (j := j + 1) hj
  have u1 := hg.up (m.getD j default).toNat t.toNat (by omega) (by omega)
  have u2 := hg.up t.toNat (m.getD (j + 1) default).toNat (by omega) (by omega)
  have hm := recSp_mid hg2 u1 u2
  have hp : pos (kep l m) (l.getD t.toNat default).a = j + 1 := (pos_eq (k := (j : Int) + 1) (by omega) (by omega) (fun i hi => by
    have := hK.le i j (by omega) (by omega)
    rw [ea] at this; omega) (fun i hi hi2 => by
    have := hK.le (j + 1) i (by omega) hi2
    rw [eb] at this; omega)).symm
  refine ⟨?_, hm⟩
  rw [hm]
  unfold recSp
  rw [hp, show ((j : Nat) : Int) + 1 - 1 = j by omega, show (((j : Nat) : Int) + 1).toNat = j + 1 by omega, show ((j : Nat) : Int).toNat = j by omega, ea, eb, if_neg (by omega), if_neg (by omega)]
/-- The reference's words. -/
structure FitW (dv mg : Int) (l : List Smp) (m : List Int) : Prop where
  z : (0 : Int) ∈ m
  e : (l.length : Int) - 1 ∈ m
  q : ∀ t : Int, 1 ≤ t → t < l.length → (l.getD t.toNat default).q = (l.getD (t - 1).toNat default).q ∨ (t - 1 ∈ m ∧ t ∈ m)
  g : ∀ j : Nat, j + 1 < m.length → m.getD (j + 1) default ≤ m.getD j default + 1 ∨ (l.getD (m.getD (j + 1) default).toNat default).a - (l.getD (m.getD j default).toNat default).a ≤ mg
  d : ∀ t : Int, 0 ≤ t → t < l.length → (l.getD t.toNat default).q ≠ 2 → (apSp (kep l m) (l.getD t.toNat default)).2 = true ∧ (apSp (kep l m) (l.getD t.toNat default)).1.1 ≤ dv * (apSp (kep l m) (l.getD t.toNat default)).1.2
theorem fit_w (h0 : l.length ≠ 0) (hd : 0 ≤ dv) (hk : kptF l m = 0) (hf : fitB dv mg l m = true) : FitW dv mg l m := by
  obtain ⟨hs, _, _⟩ := kptF_ok hk
  have hg := good_of hs
  obtain ⟨s, rfl, h⟩ := fit_chn h0 hk hf
  obtain ⟨c1, c2⟩ := chn_at s 0 h
  have hr := fun j hj => chn_rng (Int.le_refl 0) (by omega) h j hj
  refine ⟨by simp, ?_, fun t h1 h2 => ?_, fun j hj => ?_, fun t h1 h2 hq => ?_⟩
  · rw [← c2]; exact getD_mem _ _ (by simp)
  · obtain ⟨j, j1, j2, j3⟩ := chn_find s 0 (t - 1) h (by omega) (by omega)
    rcases j3 with j3 | ⟨j3, j4⟩
    · rw [j3, c2] at j2; omega
    · have hjn := (c1 j j3).2.2
      have hrj := hr j (by omega)
      have hrk := hr (j + 1) (by omega)
      rw [jnB_iff (by omega) (by omega)] at hjn
      rcases hjn with hjn | ⟨_, hjn⟩
      · have e1 : (0 :: s).getD j default = t - 1 := by omega
        have e2 : (0 :: s).getD (j + 1) default = t := by omega
        refine .inr ⟨?_, ?_⟩
        · rw [← e1]; exact getD_mem _ _ (by simp; omega)
        · rw [← e2]; exact getD_mem _ _ (by simp; omega)
      · have q1 := (nrB_iff.1 (hjn t (by omega) (by omega))).1
        by_cases e : (0 :: s).getD j default = t - 1
        · rw [e] at q1; exact .inl q1
        · have q2 := (nrB_iff.1 (hjn (t - 1) (by omega) (by omega))).1
          exact .inl (by omega)
  · have hjn := (c1 j (by simp at hj; omega)).2.2
    have hrj := hr j (by simp at hj; omega)
    have hrk := hr (j + 1) (by simp at hj; omega)
    rw [jnB_iff (by omega) (by omega)] at hjn
    rcases hjn with hjn | ⟨hjn, _⟩
    · exact .inl (by omega)
    · exact .inr hjn
  · have his : (apSp (kep l (0 :: s)) (l.getD t.toNat default)).2 = true := by
      have hrec : (recSp (kep l (0 :: s)) (l.getD t.toNat default).a).2 = true := by
        obtain ⟨j, j1, j2, j3⟩ := chn_find s 0 t h h1 h2
        by_cases e : (0 :: s).getD j default = t
        · rw [kep_at hk (by simp; omega) e]; exact decide_eq_true hq
        · rcases j3 with j3 | ⟨j3, j4⟩
          · rw [j3, c2] at j2 e; omega
          · obtain ⟨m1, m2⟩ := kep_mid hk (j := j) (by simp; omega) (t := t) (by omega) j4
            rw [m1, m2]
            have hjn := (c1 j j3).2.2
            have hrj := hr j (by omega)
            have hrk := hr (j + 1) (by omega)
            rw [jnB_iff (by omega) (by omega)] at hjn
            rcases hjn with hjn | ⟨_, hjn⟩
            · omega
            · have q1 := (nrB_iff.1 (hjn t (by omega) (by omega))).1
              have q2 := (nrB_iff.1 (hjn ((0 :: s).getD (j + 1) default) (by omega) (by omega))).1
              simp only [Bool.and_eq_true, decide_eq_true_eq]
              omega
      unfold apSp
      rw [if_neg (by rw [hrec]; simp; exact hq)]
    exact ⟨his, fit_dev hg hd h t h1 h2 his⟩
theorem chB_of : ∀ (s : List Int) (a : Int), (∀ t : Nat, t < s.length → jnB dv mg l ((a :: s).getD t default) ((a :: s).getD (t + 1) default) = true) → chB dv mg l a s = true
  | [], _, _ => rfl
  | b :: r, a, h => by
    have h0 := h 0 (by simp)
    rw [getD_c0, getD_cs, getD_c0] at h0
    rw [chB, h0, Bool.true_and]
    exact chB_of r b fun t ht => by
      have := h (t + 1) (by simp; omega)
      rw [getD_cs, getD_cs] at this
      exact this
theorem w_fit (h0 : l.length ≠ 0) (hd : 0 ≤ dv) (hk : kptF l m = 0) (W : FitW dv mg l m) : fitB dv mg l m = true := by
  obtain ⟨hs, _, _⟩ := kptF_ok hk
  have hg := good_of hs
  have hidx : ∀ x ∈ m, ∃ j, j < m.length ∧ m.getD j default = x := fun x hx => by
    obtain ⟨j, hj, rfl⟩ := List.mem_iff_getElem.1 hx
    exact ⟨j, hj, by simp [List.getD_eq_getElem?_getD, hj]⟩
  obtain ⟨j0, z1, z2⟩ := hidx _ W.z
  obtain ⟨j9, e1, e2⟩ := hidx _ W.e
  have hl : m.length ≠ 0 := by omega
  have r0 := kpt_rng hk 0 (by omega)
  have r9 := kpt_rng hk (m.length - 1) (by omega)
  have f0 : m.getD 0 default = 0 := by
    by_cases e : j0 = 0
    · rw [← e]; exact z2
    · have := kpt_asc hk 0 j0 (by omega) z1; omega
  have f9 : m.getD ((m.length : Int) - 1).toNat default = (l.length : Int) - 1 := by
    rw [show ((m.length : Int) - 1).toNat = m.length - 1 by omega]
    by_cases e : j9 = m.length - 1
    · rw [← e]; exact e2
    · have := kpt_asc hk j9 (m.length - 1) (by omega) (by omega); omega
  have hjn : ∀ j : Nat, j + 1 < m.length → jnB dv mg l (m.getD j default) (m.getD (j + 1) default) = true := fun j hj => by
    have rj := kpt_rng hk j (by omega)
    have rk := kpt_rng hk (j + 1) hj
    have hlt := kpt_asc hk j (j + 1) (by omega) hj
    rw [jnB_iff rj.1 rk.2]
    by_cases hn : m.getD (j + 1) default = m.getD j default + 1
    · exact .inl hn
    · have hgap := (W.g j hj).resolve_left (by omega)
      have hqs : ∀ d : Nat, m.getD j default + d ≤ m.getD (j + 1) default → (l.getD (m.getD j default + d).toNat default).q = (l.getD (m.getD j default).toNat default).q := by
        intro d
        induction d with
        | zero => intro _; rw [show m.getD j default + ((0 : Nat) : Int) = m.getD j default by omega]
        | succ d ih =>
          intro hd2
          have ih := ih (by omega)
          rcases W.q (m.getD j default + ((d + 1 : Nat) : Int)) (by omega) (by omega) with h | ⟨h1, h2⟩
          · rw [h, show m.getD j default + ((d + 1 : Nat) : Int) - 1 = m.getD j default + (d : Int) by omega]; exact ih
          · exfalso
            obtain ⟨i1, a1, a2⟩ := hidx _ h1
            obtain ⟨i2, b1, b2⟩ := hidx _ h2
            have c1 := kpt_inj hk (i := j) (j := i1) (by omega) a1 (by omega)
            have c2 := kpt_inj hk (i := i2) (j := j + 1) b1 hj (by omega)
            have c3 : i1 < i2 := by
              rcases Nat.lt_or_ge i1 i2 with c | c
              · exact c
              · by_cases e : i2 = i1
                · subst e; omega
                · have := kpt_asc hk i2 i1 (by omega) a1; omega
            obtain rfl : i1 = j := by omega
            obtain rfl : i2 = i1 + 1 := by omega
            omega
      refine .inr ⟨hgap, fun t h1 h2 => nrB_iff.2 ⟨?_, fun hap => ?_⟩⟩
      · have := hqs (t - m.getD j default).toNat (by omega)
        rw [show m.getD j default + ((t - m.getD j default).toNat : Int) = t by omega] at this
        exact this
      · have hg2 := good_two hg (i := (m.getD j default).toNat) (k := (m.getD (j + 1) default).toNat) (by omega) (by omega)
        by_cases e : t = m.getD (j + 1) default
        · subst e
          unfold apSp at hap ⊢
          rw [recSp_end hg2] at hap ⊢
          simp only at hap ⊢
          split
          · simp
          · simp only [Int.mul_one]; omega
        · obtain ⟨m1, _⟩ := kep_mid hk hj (t := t) h1 (by omega)
          have hae : apSp (kep l m) (l.getD t.toNat default) = apSp [l.getD (m.getD j default).toNat default, l.getD (m.getD (j + 1) default).toNat default] (l.getD t.toNat default) := by
            unfold apSp
            rw [m1]
          by_cases hq : (l.getD t.toNat default).q = 2
          · unfold apSp at hap
            rw [if_pos (.inr hq)] at hap
            cases hap
          · have := (W.d t (by omega) (by omega) hq).2
            rw [hae] at this
            exact this
  unfold fitB
  rw [if_neg h0, if_neg hl, if_neg (show ¬(m.getD 0 default ≠ 0) from fun h => h f0), if_neg (show ¬(m.getD ((m.length : Int) - 1).toNat default ≠ (l.length : Int) - 1) from fun h => h f9)]
  cases hm : m with
  | nil => rw [hm] at hl; exact absurd rfl hl
  | cons a s =>
    rw [hm] at hjn
    exact chB_of s a fun t ht => hjn t (by simp; omega)
end
end Go.Proofs.Ytggbcgldnjmobaa

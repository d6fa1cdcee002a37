
/-
 What is archived reconstructs each value within the deviation. Plain Lean.
-/
import Derived.Test.YtiiblflmfadmbaaFis
namespace Go.Proofs.Ytiiblflmfadmbaa
open Go Go.Ai
set_option linter.unusedSimpArgs false
set_option linter.unusedVariables false
set_option maxHeartbeats 4000000
theorem serGo_cs (p : Option Smp) (x : Smp) (r : List Smp) (h : serGo p (x :: r) = 0) : smpFault x = 0 ∧ (∀ y, p = some y → y.a < x.a) ∧ serGo (some x) r = 0 := by
 rw [serGo.eq_def] at h
 simp only [] at h
 by_cases h1 : smpFault x ≠ 0
 ·rw [if_pos h1] at h; omega
 ·rw [if_neg h1] at h
  cases p with
  | none =>
   simp only [Bool.false_eq_true, if_false] at h
   exact ⟨by omega, fun y hy => (by cases hy), h⟩
  | some y =>
   simp only [decide_eq_true_eq] at h
   by_cases h2 : x.a ≤ y.a
   ·rw [if_pos h2] at h; omega
   ·rw [if_neg h2] at h
    exact ⟨by omega, fun z hz => by injection hz with hz; subst hz; omega, h⟩
theorem serGo_all : ∀ (l : List Smp) (p : Option Smp), serGo p l = 0 → ∀ x ∈ l, smpFault x = 0
 | [], _, _, x, hx => by cases hx
 | y :: r, p, h, x, hx => by
  obtain ⟨k1, _, k3⟩ := serGo_cs p y r h
  simp only [List.mem_cons] at hx
  rcases hx with rfl | hx
  ·exact k1
  ·exact serGo_all r _ k3 x hx
theorem kfGo_cs (n : Int) (p : Option Int) (x : Int) (r : List Int) (h : kfGo n p (x :: r) = 0) : 0 ≤ x ∧ x < n ∧ (∀ y, p = some y → y < x) ∧ kfGo n (some x) r = 0 := by
 rw [kfGo] at h
 by_cases h1 : x < 0 ∨ x > n - 1
 ·rw [if_pos h1] at h; omega
 ·rw [if_neg h1] at h
  by_cases h2 : leO x p = true
  ·rw [if_pos h2] at h; omega
  ·rw [if_neg h2] at h
   refine ⟨by omega, by omega, fun y hy => ?_, h⟩
   subst hy
   simp only [leO, decide_eq_true_eq] at h2
   omega
/-- Samples that are taken at growing places are right, if all are. -/
theorem kep_ser {l : List Smp} (hg : Good l) (hall : ∀ x ∈ l, smpFault x = 0) : ∀ (kept : List Int) (p : Option Int) (po : Option Smp), kfGo l.length p kept = 0 → (∀ y, p = some y → 0 ≤ y ∧ y < l.length ∧ po = some (l.getD y.toNat default)) → (p = none → po = none) → serGo po (kep l kept) = 0
 | [], _, _, _, _, _ => by unfold kep; rw [List.map_nil]; rfl
 | x :: r, p, po, h, h1, h2 => by
  obtain ⟨k1, k2, k3, k4⟩ := kfGo_cs _ p x r h
  have ih := kep_ser hg hall r (some x) (some (l.getD x.toNat default)) k4 (fun y hy => by injection hy with hy; subst hy; exact ⟨k1, k2, rfl⟩) (fun hn => by cases hn)
  have hs := hall _ (getD_mem l x.toNat (by omega))
  have e : kep l (x :: r) = l.getD x.toNat default :: kep l r := rfl
  rw [e, serGo.eq_def]
  simp only []
  rw [if_neg (by omega), ih]
  cases p with
  | none => rw [h2 rfl]; rfl
  | some y =>
   obtain ⟨m1, m2, m3⟩ := h1 y rfl
   have h4 := k3 y rfl
   have := hg.up y.toNat x.toNat (by omega) (by omega)
   rw [m3]
   simp only [decide_eq_true_eq]
   rw [if_neg (by omega)]
theorem kep_fault {l : List Smp} {kept : List Int} (h : kptF l kept = 0) : serFault (kep l kept) = 0 := by
 obtain ⟨h2, h3, h4⟩ := kptF_ok h
 have hg := good_of h2
 have hlen := hg.len
 unfold serFault
 have e : (kep l kept).length = kept.length := by unfold kep; simp
 rw [if_neg (by omega)]
 exact kep_ser hg (serGo_all l none (serFault_ok h2).2) kept none none h4 (fun y hy => by cases hy) (fun _ => rfl)
section
variable {dv mg : Int} {l : List Smp}
/-- What is archived has a value where a good sample was. -/
theorem fit_is {s : List Int} (hg : Good l) (hd : 0 ≤ dv) (h : chn l.length (jnB dv mg l) 0 s) (t : Int) (ht0 : 0 ≤ t) (ht : t < l.length) (hq : (l.getD t.toNat default).q ≠ 2) :
  (recSp (kep l (0 :: s)) (l.getD t.toNat default).a).2 = true := by
 have h0 : l.length ≠ 0 := by omega
 have hK := kep_good hg h0 h
 have hkl : (kep l (0 :: s)).length = s.length + 1 := by unfold kep; simp
 have hr := fun j hj => chn_rng (Int.le_refl 0) (by omega) h j hj
 obtain ⟨j, j1, j2, j3⟩ := chn_find s 0 t h ht0 ht
 have hrj := hr j j1
 by_cases e : (0 :: s).getD j default = t
 ·have ek : (kep l (0 :: s)).getD j default = l.getD t.toNat default := by rw [kep_getD (by simp; omega), e]
  have hp : pos (kep l (0 :: s)) (l.getD t.toNat default).a = j := (pos_eq (k := (j : Int)) (by omega) (by omega) (fun i hi => by
   have := hK.up i j (by omega) (by omega)
   rw [ek] at this; exact this) (fun i hi hi2 => by
   have := hK.le j i (by omega) hi2
   rw [ek] at this; exact this)).symm
  have hrec : recSp (kep l (0 :: s)) (l.getD t.toNat default).a = (((l.getD t.toNat default).v, 1), decide ((l.getD t.toNat default).q ≠ 2)) := by
   unfold recSp
   rw [hp, show ((j : Nat) : Int).toNat = j by omega, ek, if_pos ⟨by omega, rfl⟩]
  rw [hrec]
  exact decide_eq_true hq
 ·rcases j3 with j3 | ⟨j3, j4⟩
  ·have := (chn_at s 0 h).2
   rw [← j3] at this
   omega
  ·have hrk := hr (j + 1) (by omega)
   have hjn := ((chn_at s 0 h).1 j j3).2.2
   rw [jnB_iff (by omega) (by omega)] at hjn
   rcases hjn with hjn | ⟨_, hjn⟩
   ·omega
   ·have hn := hjn t (by omega) (by omega)
    have hm2 := hjn ((0 :: s).getD (j + 1) default) (by omega) (by omega)
    rw [nrB_iff] at hn hm2
    have hg2 := good_two hg (i := ((0 :: s).getD j default).toNat) (k := ((0 :: s).getD (j + 1) default).toNat) (by omega) (by omega)
    have ea := kep_getD (l := l) (m := 0 :: s) (j := j) (by simp; omega)
    have eb := kep_getD (l := l) (m := 0 :: s) (j := j + 1) (by simp; omega)
    have u1 := hg.up ((0 :: s).getD j default).toNat t.toNat (by omega) (by omega)
    have u2 := hg.up t.toNat ((0 :: s).getD (j + 1) default).toNat (by omega) (by omega)
    have hm := recSp_mid hg2 u1 u2
    have hp : pos (kep l (0 :: s)) (l.getD t.toNat default).a = j + 1 := (pos_eq (k := (j : Int) + 1) (by omega) (by omega) (fun i hi => by
     have := hK.le i j (by omega) (by omega)
     rw [ea] at this; omega) (fun i hi hi2 => by
     have := hK.le (j + 1) i (by omega) hi2
     rw [eb] at this; omega)).symm
    have hrec : recSp (kep l (0 :: s)) (l.getD t.toNat default).a = recSp [l.getD ((0 :: s).getD j default).toNat default, l.getD ((0 :: s).getD (j + 1) default).toNat default] (l.getD t.toNat default).a := by
     rw [hm]
     unfold recSp
     rw [hp, show ((j : Nat) : Int) + 1 - 1 = j by omega, show (((j : Nat) : Int) + 1).toNat = j + 1 by omega, show ((j : Nat) : Int).toNat = j by omega, ea, eb, if_neg (by omega), if_neg (by omega)]
    rw [hrec, hm]
    have q1 := hn.1
    have q2 := hm2.1
    rw [q1] at hq
    simp only [Bool.and_eq_true, decide_eq_true_eq]
    exact ⟨hq, by rw [q2]; exact hq⟩
/-- .. and one within the deviation. -/
theorem arch_in (hs : serFault l = 0) (hd : 0 ≤ dv ∧ dv ≤ 2000000) (h0 : l.length ≠ 0) (x : Smp) (hx : x ∈ l) (hq : x.q ≠ 2) :
  (recoSp (kep l (cofSp dv mg l)) x.a).2 = (true, 0) ∧ 1 ≤ (recoSp (kep l (cofSp dv mg l)) x.a).1.2 ∧ (recoSp (kep l (cofSp dv mg l)) x.a).1.2 ≤ 345686400000 ∧
  (recoSp (kep l (cofSp dv mg l)) x.a).1.1 - x.v * (recoSp (kep l (cofSp dv mg l)) x.a).1.2 ≤ dv * (recoSp (kep l (cofSp dv mg l)) x.a).1.2 ∧
  -((recoSp (kep l (cofSp dv mg l)) x.a).1.1 - x.v * (recoSp (kep l (cofSp dv mg l)) x.a).1.2) ≤ dv * (recoSp (kep l (cofSp dv mg l)) x.a).1.2 := by
 have hg := good_of hs
 have hkf := kep_fault (cof_kpt (mg := mg) hs hd)
 obtain ⟨s, he, hc⟩ := cof_chn (mg := mg) hg hd h0
 rw [he] at hkf ⊢
 obtain ⟨i, hi, rfl⟩ := List.mem_iff_getElem.1 hx
 have e : l[i] = l.getD ((i : Int)).toNat default := by simp [List.getD_eq_getElem?_getD, hi]
 rw [e] at hq ⊢
 have hK := kep_good hg h0 hc
 have hok := hg.ok i hi
 have h1 := fit_is hg hd.1 hc i (by omega) (by omega) hq
 have h2 : (apSp (kep l (0 :: s)) (l.getD ((i : Int)).toNat default)).2 = true := by
  unfold apSp; rw [if_neg (by rw [h1]; exact fun c => c.elim (fun c => Bool.noConfusion c) hq)]
 have h3 := fit_dev hg hd.1 hc i (by omega) (by omega) h2
 unfold okSmp at hok
 rw [show l.getD i default = l.getD ((i : Int)).toNat default from rfl] at hok
 generalize l.getD ((i : Int)).toNat default = x at *
 have hb := recSp_bd hK (at_ := x.a) (by omega) h1
 unfold apSp at h3
 rw [if_neg (by rw [h1]; exact fun c => c.elim (fun c => Bool.noConfusion c) hq)] at h3
 simp only at h3
 unfold recoSp
 rw [if_neg (by omega), if_neg (by omega), if_neg (by rw [h1]; simp)]
 simp only
 generalize recSp (kep l (0 :: s)) x.a = R at *
 obtain ⟨⟨N, D⟩, b⟩ := R
 simp only at *
 obtain ⟨_, hD1, hD2⟩ := hb
 obtain ⟨e1, e2, e3, e4⟩ := low_eq N D hD1
 have m := Int.mul_le_mul_of_nonneg_right e3 (show 0 ≤ lowD N D by omega)
 have k1 : N ≤ (dv + x.v) * D := by rw [Int.add_mul]; omega
 have k2 : (x.v - dv) * D ≤ N := by rw [Int.sub_mul]; omega
 have l1 := low_le hD1 k1
 have l2 := (low_win (x.v - dv) N D hD1).1.2 k2
 rw [Int.add_mul] at l1
 rw [Int.sub_mul] at l2
 refine ⟨trivial, e4, ?_, by omega, by omega⟩
 rw [Int.one_mul] at m
 rw [← e2] at m
 omega
end
end Go.Proofs.Ytiiblflmfadmbaa


/-
 A compressor that is handed a series archives what the reference archives. Plain Lean.
-/
import Derived.Test.YtiiblflmfadmbaaCaf
namespace Go.Proofs.Ytiiblflmfadmbaa
open Go Go.Ai
set_option linter.unusedSimpArgs false
set_option linter.unusedVariables false
set_option maxHeartbeats 4000000
def runN (dv mg : Int) (l : List Smp) : Nat → Sc × List Smp
 | 0 => (ini dv mg, [])
 | i + 1 => ((addS (runN dv mg l i).1 (l.getD i default)).1, (runN dv mg l i).2 ++ (addS (runN dv mg l i).1 (l.getD i default)).2)
/-- Slopes by their cross products. -/
theorem sl_tr {a b c d e f : Int} (hb : 0 ≤ b) (hd : 0 < d) (hf : 0 ≤ f) (h1 : a * d ≤ c * b) (h2 : c * f ≤ e * d) : a * f ≤ e * b := by
 have m1 := Int.mul_le_mul_of_nonneg_right h1 hf
 have m2 := Int.mul_le_mul_of_nonneg_right h2 hb
 have e1 : a * d * f = a * f * d := by rw [Int.mul_assoc, Int.mul_comm d f, ← Int.mul_assoc]
 have e2 : c * b * f = c * f * b := by rw [Int.mul_assoc, Int.mul_comm b f, ← Int.mul_assoc]
 have e3 : e * d * b = e * b * d := by rw [Int.mul_assoc, Int.mul_comm d b, ← Int.mul_assoc]
 exact Int.le_of_mul_le_mul_right (a := d) (by omega) hd
/-- The cone of the samples behind the pivot. -/
structure Cone (dv : Int) (x : Sc) (l : List Smp) (p h : Nat) : Prop where
 z : p = h → x.c = false
 c : p < h → x.c = true
 lo : p < h → ∃ t, p < t ∧ t ≤ h ∧ x.lr = (l.getD t default).v - (l.getD p default).v - dv ∧ x.ln = (l.getD t default).a - (l.getD p default).a
 hi : p < h → ∃ t, p < t ∧ t ≤ h ∧ x.hr = (l.getD t default).v - (l.getD p default).v + dv ∧ x.hn = (l.getD t default).a - (l.getD p default).a
 lall : ∀ t, p < t → t ≤ h → ((l.getD t default).v - (l.getD p default).v - dv) * x.ln ≤ x.lr * ((l.getD t default).a - (l.getD p default).a)
 hall : ∀ t, p < t → t ≤ h → x.hr * ((l.getD t default).a - (l.getD p default).a) ≤ ((l.getD t default).v - (l.getD p default).v + dv) * x.hn
theorem cone_nrw {dv : Int} {x : Sc} {l : List Smp} {p h : Nat} (hg : Good l) (hph : p ≤ h) (hl : h + 1 < l.length) (H : Cone dv x l p h) : Cone dv (nrw x (l.getD p default) (l.getD (h + 1) default) dv) l p (h + 1) := by
 have up : ∀ t, p < t → t ≤ h + 1 → 0 < (l.getD t default).a - (l.getD p default).a := fun t h1 h2 => by have := hg.up p t h1 (by omega); omega
 have us := up (h + 1) (by omega) (by omega)
 unfold nrw
 rcases Nat.eq_or_lt_of_le hph with e | e
 ·subst e
  have hc := H.z rfl
  rw [hc]
  refine ⟨by omega, fun _ => rfl, fun _ => ⟨p + 1, by omega, by omega, rfl, rfl⟩, fun _ => ⟨p + 1, by omega, by omega, rfl, rfl⟩, fun t h1 h2 => ?_, fun t h1 h2 => ?_⟩
  ·obtain rfl : t = p + 1 := by omega
   exact Int.le_refl _
  ·obtain rfl : t = p + 1 := by omega
   exact Int.le_refl _
 ·have hc := H.c e
  obtain ⟨tl, l1, l2, l3, l4⟩ := H.lo e
  obtain ⟨th, u1, u2, u3, u4⟩ := H.hi e
  have ul := up tl l1 (by omega)
  have uh := up th u1 (by omega)
  have hL : ∀ t, p < t → t ≤ h + 1 → ∀ (b : Bool), b = decide (x.lr * ((l.getD (h + 1) default).a - (l.getD p default).a) < ((l.getD (h + 1) default).v - (l.getD p default).v - dv) * x.ln) →
    ((l.getD t default).v - (l.getD p default).v - dv) * (if b = true then (l.getD (h + 1) default).a - (l.getD p default).a else x.ln) ≤ (if b = true then (l.getD (h + 1) default).v - (l.getD p default).v - dv else x.lr) * ((l.getD t default).a - (l.getD p default).a) := by
   intro t h1 h2 b hb
   have ut := up t h1 h2
   cases b with
   | true =>
    have hb := of_decide_eq_true hb.symm
    rw [if_pos rfl, if_pos rfl]
    by_cases ht : t = h + 1
    ·subst ht; exact Int.le_refl _
    ·exact sl_tr (by omega) (show 0 < x.ln by omega) (by omega) (H.lall t h1 (by omega)) (by omega)
   | false =>
    have hb := of_decide_eq_false hb.symm
    rw [if_neg (by simp), if_neg (by simp)]
    by_cases ht : t = h + 1
    ·subst ht; omega
    ·exact H.lall t h1 (by omega)
  have hH : ∀ t, p < t → t ≤ h + 1 → ∀ (b : Bool), b = decide (((l.getD (h + 1) default).v - (l.getD p default).v + dv) * x.hn < x.hr * ((l.getD (h + 1) default).a - (l.getD p default).a)) →
    (if b = true then (l.getD (h + 1) default).v - (l.getD p default).v + dv else x.hr) * ((l.getD t default).a - (l.getD p default).a) ≤ ((l.getD t default).v - (l.getD p default).v + dv) * (if b = true then (l.getD (h + 1) default).a - (l.getD p default).a else x.hn) := by
   intro t h1 h2 b hb
   have ut := up t h1 h2
   cases b with
   | true =>
    have hb := of_decide_eq_true hb.symm
    rw [if_pos rfl, if_pos rfl]
    by_cases ht : t = h + 1
    ·subst ht; exact Int.le_refl _
    ·exact sl_tr (b := (l.getD (h + 1) default).a - (l.getD p default).a) (f := (l.getD t default).a - (l.getD p default).a) (by omega) (show 0 < x.hn by omega) (by omega) (by omega) (H.hall t h1 (by omega))
   | false =>
    have hb := of_decide_eq_false hb.symm
    rw [if_neg (by simp), if_neg (by simp)]
    by_cases ht : t = h + 1
    ·subst ht; omega
    ·exact H.hall t h1 (by omega)
  rw [hc]
  simp only [Bool.not_true, Bool.false_or]
  refine ⟨by omega, fun _ => rfl, fun _ => ?_, fun _ => ?_, fun t h1 h2 => hL t h1 h2 _ rfl, fun t h1 h2 => hH t h1 h2 _ rfl⟩
  ·show ∃ t, p < t ∧ t ≤ h + 1 ∧ (if decide (sl x.lr x.ln ((l.getD (h + 1) default).v - (l.getD p default).v - dv) ((l.getD (h + 1) default).a - (l.getD p default).a)) = true then (l.getD (h + 1) default).v - (l.getD p default).v - dv else x.lr) = _ ∧ (if decide (sl x.lr x.ln ((l.getD (h + 1) default).v - (l.getD p default).v - dv) ((l.getD (h + 1) default).a - (l.getD p default).a)) = true then (l.getD (h + 1) default).a - (l.getD p default).a else x.ln) = _
   generalize decide (sl x.lr x.ln ((l.getD (h + 1) default).v - (l.getD p default).v - dv) ((l.getD (h + 1) default).a - (l.getD p default).a)) = b
   cases b with
   | true => exact ⟨h + 1, by omega, by omega, rfl, rfl⟩
   | false => exact ⟨tl, l1, by omega, l3, l4⟩
  ·show ∃ t, p < t ∧ t ≤ h + 1 ∧ (if decide (sl ((l.getD (h + 1) default).v - (l.getD p default).v + dv) ((l.getD (h + 1) default).a - (l.getD p default).a) x.hr x.hn) = true then (l.getD (h + 1) default).v - (l.getD p default).v + dv else x.hr) = _ ∧ (if decide (sl ((l.getD (h + 1) default).v - (l.getD p default).v + dv) ((l.getD (h + 1) default).a - (l.getD p default).a) x.hr x.hn) = true then (l.getD (h + 1) default).a - (l.getD p default).a else x.hn) = _
   generalize decide (sl ((l.getD (h + 1) default).v - (l.getD p default).v + dv) ((l.getD (h + 1) default).a - (l.getD p default).a) x.hr x.hn) = b
   cases b with
   | true => exact ⟨h + 1, by omega, by omega, rfl, rfl⟩
   | false => exact ⟨th, u1, by omega, u3, u4⟩
theorem near_iff (d : Int) (p b s : Smp) : nearB d p b s = true ↔ (s.v - p.v - d) * (b.a - p.a) ≤ (b.v - p.v) * (s.a - p.a) ∧ (b.v - p.v) * (s.a - p.a) ≤ (s.v - p.v + d) * (b.a - p.a) := by
 unfold nearB loV
 rw [decide_eq_true_eq]
 have e1 : (s.v - p.v - d) * (b.a - p.a) = s.v * (b.a - p.a) - p.v * (b.a - p.a) - d * (b.a - p.a) := by rw [Int.sub_mul, Int.sub_mul]
 have e2 : (s.v - p.v + d) * (b.a - p.a) = s.v * (b.a - p.a) - p.v * (b.a - p.a) + d * (b.a - p.a) := by rw [Int.add_mul, Int.sub_mul]
 have e3 : (p.v - s.v) * (b.a - p.a) = p.v * (b.a - p.a) - s.v * (b.a - p.a) := by rw [Int.sub_mul]
 rw [e1, e2, e3]
 omega
theorem cv_iff {dv : Int} {l : List Smp} {p i : Nat} (hi : i < l.length) : cvB dv l p i = true ↔ ∀ t, p < t → t < i → nearB dv (l.getD p default) (l.getD i default) (l.getD t default) = true := by
 unfold cvB
 rw [List.all_eq_true]
 have e1 : ((p : Int) + 1).toNat = p + 1 := by omega
 rw [e1, Int.toNat_natCast, Int.toNat_natCast]
 constructor
 ·intro h t h1 h2
  refine h _ (List.mem_iff_getElem.2 ⟨t - (p + 1), by rw [List.length_drop, List.length_take]; omega, ?_⟩)
  rw [List.getElem_drop, List.getElem_take]
  simp [List.getD_eq_getElem?_getD, show p + 1 + (t - (p + 1)) = t by omega, show t < l.length by omega]
 ·intro h x hx
  obtain ⟨j, hj, rfl⟩ := List.mem_iff_getElem.1 hx
  rw [List.length_drop, List.length_take] at hj
  rw [List.getElem_drop, List.getElem_take]
  have := h (p + 1 + j) (by omega) (by omega)
  simpa [List.getD_eq_getElem?_getD, show p + 1 + j < l.length by omega] using this
/-- The cone has a sample just where the line to it is near enough to all between. -/
theorem has_cv {dv : Int} {x : Sc} {l : List Smp} {p h : Nat} (hg : Good l) (hph : p ≤ h) (hl : h + 1 < l.length) (H : Cone dv x l p h) : hasB x (l.getD p default) (l.getD (h + 1) default) = cvB dv l p ((h + 1 : Nat) : Int) := by
 have up : ∀ t, p < t → t ≤ h + 1 → 0 < (l.getD t default).a - (l.getD p default).a := fun t h1 h2 => by have := hg.up p t h1 (by omega); omega
 have us := up (h + 1) (by omega) (by omega)
 rw [Bool.eq_iff_iff, cv_iff (by omega)]
 unfold hasB
 rcases Nat.eq_or_lt_of_le hph with e | e
 ·subst e
  rw [H.z rfl]
  exact ⟨fun _ t h1 h2 => by omega, fun _ => rfl⟩
 ·obtain ⟨tl, l1, l2, l3, l4⟩ := H.lo e
  obtain ⟨th, u1, u2, u3, u4⟩ := H.hi e
  have ul := up tl l1 (by omega)
  have uh := up th u1 (by omega)
  rw [H.c e]
  simp only [Bool.not_true, Bool.false_or, Bool.and_eq_true, Bool.not_eq_true', decide_eq_false_iff_not]
  constructor
  ·rintro ⟨h1, h2⟩ t k1 k2
   have ut := up t k1 (by omega)
   rw [near_iff]
   refine ⟨sl_tr (by omega) (show 0 < x.ln by omega) (by omega) (H.lall t k1 (by omega)) (by omega), ?_⟩
   exact sl_tr (b := (l.getD (h + 1) default).a - (l.getD p default).a) (f := (l.getD t default).a - (l.getD p default).a) (by omega) (show 0 < x.hn by omega) (by omega) (by omega) (H.hall t k1 (by omega))
  ·intro hall
   have n1 := (near_iff _ _ _ _).1 (hall tl l1 (by omega))
   have n2 := (near_iff _ _ _ _).1 (hall th u1 (by omega))
   rw [← l3, ← l4] at n1
   rw [← u3, ← u4] at n2
   omega
theorem kpI_at {o : List Int} {p h : Int} (h1 : o.length ≠ 0) (h2 : o.getD ((o.length : Int) - 1).toNat default = p) : kpI o h = if p = h then o else o ++ [h] := by
 unfold kpI
 by_cases c : p = h
 ·rw [if_pos c, if_neg]
  rintro (e | e)
  ·exact h1 e
  ·exact e (by rw [h2, c])
 ·rw [if_neg c, if_pos (.inr (by rw [h2]; exact c))]
theorem last_snoc (o : List Int) (h : Int) : (o ++ [h]).length ≠ 0 ∧ (o ++ [h]).getD (((o ++ [h]).length : Int) - 1).toNat default = h := by
 refine ⟨by simp, ?_⟩
 rw [List.length_append]
 have : (((o.length + [h].length : Nat) : Int) - 1).toNat = o.length := by simp
 rw [this]
 simp [List.getD_eq_getElem?_getD]
theorem kep_app (l : List Smp) (a b : List Int) : kep l (a ++ b) = kep l a ++ kep l b := by unfold kep; rw [List.map_append]
/-- What holds of both after i samples. -/
structure Sim (dv mg : Int) (l : List Smp) (x : Sc) (out : List Smp) (r : Rs) (p h : Nat) : Prop where
 b : x.b = true
 d : x.dv = dv ∧ x.mg = mg
 rp : r.p = p
 rh : r.h = h
 ph : p ≤ h
 hl : h < l.length
 xp : x.p = l.getD p default
 xh : x.h = l.getD h default
 o : out = kep l r.o
 o1 : r.o.length ≠ 0
 o2 : r.o.getD ((r.o.length : Int) - 1).toNat default = p
 o3 : ∀ k ∈ r.o, 0 ≤ k ∧ k ≤ p
 o4 : r.o.length ≤ p + 1
 q : ∀ t, p ≤ t → t ≤ h → (l.getD t default).q = (l.getD p default).q
 okc : okC x
 cb : (l.getD p default).q = 2 → x.c = false
 cg : (l.getD p default).q ≠ 2 → Cone dv x l p h
theorem sm_iff {l : List Smp} (hg : Good l) {p h : Nat} (hp : p ≤ h) (hl : h < l.length) : sm (l.getD h default) (l.getD p default) ↔ p = h := by
 constructor
 ·intro hs
  rcases Nat.eq_or_lt_of_le hp with e | e
  ·exact e
  ·have := hg.up p h e hl
   have := hs.1
   omega
 ·rintro rfl; exact ⟨rfl, rfl, rfl⟩
/-- What is held is archived by both. -/
theorem Sim.keep {dv mg : Int} {l : List Smp} {x : Sc} {out : List Smp} {r : Rs} {p h : Nat} (hg : Good l) (H : Sim dv mg l x out r p h) :
  Sim dv mg l (keepS x []).1 (out ++ (keepS x []).2) ⟨kpI r.o r.h, r.h, r.h⟩ h h := by
 have hk := kpI_at (h := r.h) H.o1 H.o2
 rw [H.rh] at hk ⊢
 unfold keepS
 by_cases e : p = h
 ·have hs := (sm_iff hg H.ph H.hl).2 e
  rw [← H.xp, ← H.xh] at hs
  rw [if_pos hs, hk, if_pos (by omega)]
  subst e
  refine ⟨H.b, H.d, rfl, rfl, Nat.le_refl _, H.hl, H.xp, H.xh, by simp [H.o], H.o1, H.o2, H.o3, H.o4, H.q, H.okc, H.cb, H.cg⟩
 ·have hs : ¬sm x.h x.p := fun hs => by rw [H.xp, H.xh] at hs; exact e ((sm_iff hg H.ph H.hl).1 hs)
  rw [if_neg hs, hk, if_neg (by omega)]
  have hlast := last_snoc r.o h
  refine ⟨H.b, H.d, rfl, rfl, Nat.le_refl _, H.hl, H.xh, H.xh, ?_, hlast.1, hlast.2, fun k hk => ?_, ?_, fun t h1 h2 => ?_, by unfold okC arch; simp, fun _ => rfl, fun _ => ⟨fun _ => rfl, by omega, by omega, by omega, fun t h1 h2 => by omega, fun t h1 h2 => by omega⟩⟩
  ·rw [kep_app, H.o, H.xh]; simp [kep]
  ·have hph := H.ph
   rcases List.mem_append.1 hk with hk | hk
   ·have := H.o3 k hk; omega
   ·simp only [List.mem_singleton] at hk; omega
  ·have := H.o4
   have hph := H.ph
   simp only [List.length_append, List.length_cons, List.length_nil]; omega
  ·obtain rfl : t = h := by omega
   rfl
theorem Sim.okx {dv mg : Int} {l : List Smp} {x : Sc} {out : List Smp} {r : Rs} {p h : Nat} (hg : Good l) (H : Sim dv mg l x out r p h) (hd : 0 ≤ dv ∧ dv ≤ 2000000) (hm : 1 ≤ mg ∧ mg ≤ 345686400000) (hl : h + 1 < l.length) : OkX x (l.getD (h + 1) default) := by
 have u1 := hg.up p (h + 1) (by have := H.ph; omega) hl
 have u2 := hg.up h (h + 1) (by omega) hl
 refine ⟨H.okc, by rw [H.d.1]; exact hd, by rw [H.d.2]; exact hm, by rw [H.xp]; exact hg.ok p (by have := H.ph; omega), by rw [H.xh]; exact hg.ok h (by omega), hg.ok _ hl, by rw [H.xp]; omega, by rw [H.xh]; omega⟩
/-- The pivot stays: the sample is held. -/
theorem Sim.hold {dv mg : Int} {l : List Smp} {x : Sc} {out : List Smp} {r : Rs} {p h : Nat} (hg : Good l) (hd : 0 ≤ dv ∧ dv ≤ 2000000) (H : Sim dv mg l x out r p h) (hl : h + 1 < l.length) (hq : (l.getD (h + 1) default).q = (l.getD p default).q) :
  Sim dv mg l (hldS (if (l.getD (h + 1) default).q = 2 then x else nrw x x.p (l.getD (h + 1) default) dv) (l.getD (h + 1) default)) out ⟨r.o, r.p, ((h + 1 : Nat) : Int)⟩ p (h + 1) := by
 have hq' : ∀ t, p ≤ t → t ≤ h + 1 → (l.getD t default).q = (l.getD p default).q := fun t h1 h2 => by
  by_cases e : t = h + 1
  ·subst e; exact hq
  ·exact H.q t h1 (by omega)
 have hph := H.ph
 by_cases c : (l.getD (h + 1) default).q = 2
 ·rw [if_pos c]
  refine ⟨H.b, H.d, H.rp, rfl, by omega, hl, H.xp, rfl, H.o, H.o1, H.o2, H.o3, H.o4, hq', H.okc, fun h => H.cb h, fun h => absurd (by rw [← hq]; exact c) h⟩
 ·rw [if_neg c]
  have hc := cone_nrw hg hph hl (H.cg (by rw [← hq]; exact c))
  rw [← H.xp] at hc
  refine ⟨H.b, H.d, H.rp, rfl, by omega, hl, H.xp, rfl, H.o, H.o1, H.o2, H.o3, H.o4, hq', ?_, fun h => absurd (by rw [hq]; exact h) c, fun _ => ⟨hc.z, hc.c, hc.lo, hc.hi, hc.lall, hc.hall⟩⟩
  have o1 := hg.ok p (by omega)
  have o2 := hg.ok (h + 1) hl
  have u := hg.up p (h + 1) (by omega) hl
  have hok := H.okc
  rw [H.xp]
  unfold okSmp at o1 o2
  unfold okC at hok ⊢
  unfold hldS nrw
  simp only
  refine ⟨?_, ?_, ?_, ?_⟩
  all_goals split <;> omega
theorem Sim.step {dv mg : Int} {l : List Smp} {x : Sc} {out : List Smp} {r : Rs} {p h : Nat} (hg : Good l) (hd : 0 ≤ dv ∧ dv ≤ 2000000) (H : Sim dv mg l x out r p h) (hl : h + 1 < l.length) :
  ∃ p', Sim dv mg l (addS x (l.getD (h + 1) default)).1 (out ++ (addS x (l.getD (h + 1) default)).2) (rsStep dv mg l r (h + 1)) p' (h + 1) := by
 have K := H.keep hg
 have erp : r.p.toNat = p := by have := H.rp; omega
 have eh : ((h + 1 : Nat) : Int) = (h : Int) + 1 := by omega
 unfold addS rsStep
 rw [if_neg (by rw [H.b]; simp), if_neg (show ¬h + 1 = 0 by omega), erp]
 by_cases c1 : (l.getD (h + 1) default).q = (l.getD p default).q
 ·rw [if_neg (show ¬((l.getD (h + 1) default).q ≠ x.p.q) from fun hh => by rw [H.xp] at hh; exact hh c1), if_neg (show ¬((l.getD (h + 1) default).q ≠ (l.getD p default).q) from fun hh => hh c1)]
  have hK := K.hold hg hd hl (by rw [c1]; exact (H.q h H.ph (Nat.le_refl _)).symm)
  have hH := H.hold hg hd hl c1
  have ey : rsK r r.h = ⟨kpI r.o r.h, r.h, r.h⟩ := rfl
  have em : x.mg = mg := H.d.2
  have ed : x.dv = dv := H.d.1
  rw [em, H.xp, ey]
  by_cases c2 : (l.getD (h + 1) default).q = 2
  ·rw [if_pos c2] at hK hH ⊢
   by_cases c3 : (l.getD (h + 1) default).a - (l.getD p default).a > mg
   ·rw [if_pos c3, if_pos (.inl ⟨c2, c3⟩)]
    exact ⟨h, hK⟩
   ·rw [if_neg c3, if_neg (by rintro (hh | hh); exact c3 hh.2; exact hh.1 c2)]
    exact ⟨p, by simpa using hH⟩
  ·rw [if_neg c2] at hK hH ⊢
   have hcv := has_cv hg H.ph hl (H.cg (by rw [← c1]; exact c2))
   rw [H.rp, ed, hcv]
   by_cases c3 : (l.getD (h + 1) default).a - (l.getD p default).a > mg ∨ cvB dv l p ((h + 1 : Nat) : Int) = false
   ·rw [if_pos c3, if_pos (.inr ⟨c2, c3⟩)]
    exact ⟨h, hK⟩
   ·rw [if_neg c3, if_neg (by rintro (hh | hh); exact c2 hh.1; exact c3 hh.2)]
    rw [H.xp] at hH
    exact ⟨p, by simpa [H.rp] using hH⟩
 ·rw [if_pos (by rw [H.xp]; exact c1), if_pos c1]
  have e2 : (rsK (rsK r r.h) ((h + 1 : Nat) : Int)).o = kpI r.o r.h ++ [((h + 1 : Nat) : Int)] := by
   have := kpI_at (h := ((h + 1 : Nat) : Int)) K.o1 K.o2
   rw [if_neg (by omega)] at this
   exact this
  have hlast := last_snoc (kpI r.o r.h) ((h + 1 : Nat) : Int)
  refine ⟨h + 1, K.b, K.d, rfl, rfl, Nat.le_refl _, hl, rfl, rfl, ?_, by rw [e2]; exact hlast.1, by rw [e2]; exact hlast.2, fun k hk => ?_, ?_, fun t h1 h2 => ?_, by unfold okC arch; simp, fun _ => rfl, fun _ => ⟨fun _ => rfl, by omega, by omega, by omega, fun t h1 h2 => by omega, fun t h1 h2 => by omega⟩⟩
  ·rw [e2, kep_app, ← List.append_assoc, K.o]; simp [kep]
  ·rw [e2] at hk
   rcases List.mem_append.1 hk with hk | hk
   ·have := K.o3 k hk; omega
   ·simp only [List.mem_singleton] at hk; omega
  ·have := K.o4
   rw [e2]
   simp only [List.length_append, List.length_cons, List.length_nil]
   simp only at this
   omega
  ·obtain rfl : t = h + 1 := by omega
   rfl
theorem sim_run {dv mg : Int} {l : List Smp} (hg : Good l) (hd : 0 ≤ dv ∧ dv ≤ 2000000) : ∀ i : Nat, i < l.length → ∃ p, Sim dv mg l (runN dv mg l (i + 1)).1 (runN dv mg l (i + 1)).2 (rsRun dv mg l (i + 1)) p i
 | 0, hi => by
  refine ⟨0, rfl, ⟨rfl, rfl⟩, rfl, rfl, Nat.le_refl _, hi, rfl, rfl, ?_, ?_, ?_, fun k hk => ?_, ?_, fun t h1 h2 => ?_, ?_, fun _ => rfl, fun _ => ⟨fun _ => rfl, by omega, by omega, by omega, fun t h1 h2 => by omega, fun t h1 h2 => by omega⟩⟩
  ·rfl
  ·exact fun h => by cases h
  ·rfl
  ·have hk : k ∈ [(0 : Int)] := hk
   simp only [List.mem_singleton] at hk; omega
  ·exact Nat.le_refl _
  ·obtain rfl : t = 0 := by omega
   rfl
  ·show okC (arch _ _)
   unfold okC arch; simp
 | i + 1, hi => by
  obtain ⟨p, H⟩ := sim_run hg hd i (by omega)
  exact H.step hg hd hi
/-- A compressor archives what the reference archives. -/
theorem stream_is {dv mg : Int} {l : List Smp} (hg : Good l) (hd : 0 ≤ dv ∧ dv ≤ 2000000) :
  (runN dv mg l l.length).2 ++ (fluS (runN dv mg l l.length).1).2 = kep l (cofSp dv mg l) ∧ (∀ k ∈ cofSp dv mg l, 0 ≤ k ∧ k < l.length) ∧ (cofSp dv mg l).length ≤ l.length ∧ (fluS (runN dv mg l l.length).1).1 = ini dv mg := by
 unfold cofSp
 cases hn : l.length with
 | zero => exact ⟨rfl, by rw [if_neg (by omega)]; simp [rsRun], by rw [if_neg (by omega)]; simp [rsRun], rfl⟩
 | succ n =>
  rw [if_pos (by omega)]
  obtain ⟨p, H⟩ := sim_run (mg := mg) hg hd n (by omega)
  have K := H.keep hg
  have ef : (fluS (runN dv mg l (n + 1)).1).2 = (keepS (runN dv mg l (n + 1)).1 []).2 := by
   unfold fluS keepS
   rw [H.b]
   by_cases hs : sm (runN dv mg l (n + 1)).1.h (runN dv mg l (n + 1)).1.p
   ·rw [if_pos hs, if_neg (fun h => h.2 hs)]
   ·rw [if_neg hs, if_pos ⟨rfl, hs⟩]; rfl
  rw [ef]
  refine ⟨K.o, fun k hk => ?_, ?_, ?_⟩
  ·have := K.o3 k hk; omega
  ·have := K.o4; simp only at this; omega
  ·unfold fluS ini; rw [H.d.1, H.d.2]
end Go.Proofs.Ytiiblflmfadmbaa

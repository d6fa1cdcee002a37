/-
 What is wrong with series: the program's answer, for any series. Alarms: what the program says and what the reference says.
-/
import Derived.Test.YtfgkpbkphmeigaaGreatDoorAlx
import Derived.Test.YtfgkpbkphmeigaaGreatDoorCka
namespace Go.Proofs.YtfgkpbkphmeigaaGreatDoor
open Go Go.Ai
set_option linter.unusedSimpArgs false
set_option linter.unusedVariables false
set_option maxHeartbeats 4000000
set_option maxHeartbeats 12000000 in
theorem checkAllG_fc (l : List Ser) (hl : l.length ≤ 1000000) (hsm : ∀ x ∈ l, x.t.size ≤ 1000 ∧ x.l.length ≤ 1000000) : FC Tryz.prog 15 none [sers false l] (fun _ r => r = iv (asF l)) := by
 refine fc_checkAll (by simp +arith) ?_
 unfold C_checkAll asF
 by_cases c0 : l.length > 200
 ·rw [if_pos c0]
  simp (maxSteps := 1000000) (disch := omega) only [go_sem]
 rw [if_neg c0]
 simp (maxSteps := 1000000) (disch := omega) only [go_sem]
 refine ex_loop1 (als1St l) (fun i => 0 ≤ i ∧ i ≤ l.length ∧ asGo (prvS l i.toNat) (l.drop i.toNat) = asGo none l) (fun i => (l.length - i).toNat) 0 ⟨by omega, by omega, rfl⟩ rfl ?_
 rintro i ⟨g1, g2, g3⟩
 unfold als1St
 by_cases hi : i < l.length
 ·have e2 : (i + 1).toNat = i.toNat + 1 := by omega
  have em := getD_map_at (serS true) l i [] g1 hi
  have hm := hsm _ (getD_mem l i.toNat (by omega))
  rw [drop_cons l i.toNat (by omega), asGo, ← e2] at g3
  have hk := key_fc (l.getD i.toNat default).t (by omega)
  have hs := checkSeries_fc (l.getD i.toNat default).l (by omega)
  cases c1 : keyOk (l.getD i.toNat default).t with
  | false =>
   rw [c1] at hk
   rw [if_pos c1] at g3
   rw [← g3]
   simp (maxSteps := 1000000) (disch := (first | omega | assumption)) only [go_sem]
   refine CALL_det hk (.inl rfl) ?_
   simp (maxSteps := 1000000) (disch := (first | omega | assumption)) only [go_sem]
  | true =>
   rw [c1] at hk
   rw [if_neg (by rw [c1]; simp)] at g3
   by_cases hi0 : 0 < i
   ·have ep := getD_map_at (serS true) l (i - 1) [] (by omega) (by omega)
    have e4 : prvS l i.toNat = some (l.getD (i - 1).toNat default).t := by
     unfold prvS; rw [if_neg (by omega)]
     rw [show i.toNat - 1 = (i - 1).toNat by omega]
    rw [e4] at g3
    have ho := ord_or (a := (l.getD i.toNat default).t) (b := (l.getD (i - 1).toNat default).t)
    by_cases c2 : ltS (l.getD (i - 1).toNat default).t (l.getD i.toNat default).t
    ·rw [if_neg (show ¬(ordBad (some (l.getD (i - 1).toNat default).t) (l.getD i.toNat default).t = true) from fun h => (of_decide_eq_true h) c2)] at g3
     have h5 : ¬(ltS (l.getD i.toNat default).t (l.getD (i - 1).toNat default).t ∨ (l.getD i.toNat default).t = (l.getD (i - 1).toNat default).t) := fun h => (ho.1 h) c2
     by_cases c3 : serFault (l.getD i.toNat default).l ≠ 0
     ·rw [if_pos c3] at g3
      rw [← g3]
      simp (maxSteps := 1000000) (disch := (first | omega | assumption)) only [go_sem]
      refine CALL_det hk (.inl rfl) ?_
      simp (maxSteps := 1000000) (disch := (first | omega | assumption)) only [go_sem]
      refine CALL_det hs (.inl rfl) ?_
      simp (maxSteps := 1000000) (disch := (first | omega | assumption)) only [go_sem]
     ·rw [if_neg c3] at g3
      simp (maxSteps := 1000000) (disch := (first | omega | assumption)) only [go_sem]
      refine CALL_det hk (.inl rfl) ?_
      simp (maxSteps := 1000000) (disch := (first | omega | assumption)) only [go_sem]
      refine CALL_det hs (.inl rfl) ?_
      simp (maxSteps := 1000000) (disch := (first | omega | assumption)) only [go_sem]
      exact ⟨i + 1, rfl, ⟨by omega, by omega, by rw [e2, prvS_succ, ← e2]; exact g3⟩, by omega⟩
    ·rw [if_pos (show ordBad (some (l.getD (i - 1).toNat default).t) (l.getD i.toNat default).t = true from decide_eq_true c2)] at g3
     have h5 := ho.2 c2
     rw [← g3]
     simp (maxSteps := 1000000) (disch := (first | omega | assumption)) only [go_sem]
     refine CALL_det hk (.inl rfl) ?_
     simp (maxSteps := 1000000) (disch := (first | omega | assumption)) only [go_sem]
   ·have e0 : i = 0 := by omega
    subst e0
    rw [show prvS l (Int.toNat 0) = none from rfl, if_neg (by simp [ordBad])] at g3
    by_cases c3 : serFault (l.getD (Int.toNat 0) default).l ≠ 0
    ·rw [if_pos c3] at g3
     rw [← g3]
     simp (maxSteps := 1000000) (disch := (first | omega | assumption)) only [go_sem]
     refine CALL_det hk (.inl rfl) ?_
     simp (maxSteps := 1000000) (disch := (first | omega | assumption)) only [go_sem]
     refine CALL_det hs (.inl rfl) ?_
     simp (maxSteps := 1000000) (disch := (first | omega | assumption)) only [go_sem]
    ·rw [if_neg c3] at g3
     simp (maxSteps := 1000000) (disch := (first | omega | assumption)) only [go_sem]
     refine CALL_det hk (.inl rfl) ?_
     simp (maxSteps := 1000000) (disch := (first | omega | assumption)) only [go_sem]
     refine CALL_det hs (.inl rfl) ?_
     simp (maxSteps := 1000000) (disch := (first | omega | assumption)) only [go_sem]
     exact ⟨1, rfl, ⟨by omega, by omega, g3⟩, by omega⟩
 ·rw [List.drop_eq_nil_of_le (by omega), asGo] at g3
  rw [← g3]
  simp (maxSteps := 1000000) (disch := omega) only [go_sem]
/-! ### what the program says of alarms is what the reference says -/
theorem lpR_to (l : List Alm) (k : ByteArray) : ∀ (n : Nat) (x : Alm), lpR l k n x = true → ∃ j, j < n ∧ (∀ i, i ≤ j → (itr l i x).p ≠ emp) ∧ (itr l (j + 1) x).k = k
 | 0, x, h => by simp [lpR] at h
 | n + 1, x, h => by
  rw [lpR] at h
  by_cases c : x.p = emp
  ·rw [if_pos c] at h; cases h
  ·rw [if_neg c] at h
   by_cases c2 : (parO l x).k = k
   ·exact ⟨0, by omega, fun i hi => by rw [show i = 0 by omega]; exact c, c2⟩
   ·rw [if_neg c2] at h
    obtain ⟨j, h1, h2, h3⟩ := lpR_to l k n _ h
    refine ⟨j + 1, by omega, fun i hi => ?_, h3⟩
    cases i with
    | zero => exact c
    | succ i => exact h2 i (by omega)
theorem parA_full (l : List Alm) : ∀ (n : Nat) (x : Alm), (∀ j, j < n → (itr l j x).p ≠ emp) → (parA l n x).length = n
 | 0, x, _ => rfl
 | n + 1, x, h => by
  have h0 : x.p ≠ emp := h 0 (by omega)
  rw [parA, if_neg h0, List.length_cons, parA_full l n _ fun j hj => h (j + 1) (by omega)]
theorem caF_eq (l : List Alm) : caF l = afF l := by
 by_cases h0 : afF l = 0
 ·rw [h0, caF_of h0]
 unfold afF at h0 ⊢
 unfold caF
 by_cases c1 : l.length > 200
 ·rw [if_pos c1, if_pos c1]
 rw [if_neg c1] at h0 ⊢
 rw [if_neg c1]
 by_cases c2 : afGo none l ≠ 0
 ·rw [if_pos c2, if_pos c2]
 rw [if_neg c2] at h0 ⊢
 rw [if_neg c2]
 by_cases c3 : l.any (noPar l) = true
 ·rw [if_pos c3, if_pos c3]
 rw [if_neg c3] at h0 ⊢
 rw [if_neg c3]
 by_cases c4 : (l.any fun x => lpR l x.k l.length x) = true
 ·rw [if_pos c4, if_pos]
  obtain ⟨x, hx, hlp⟩ := List.any_eq_true.1 c4
  obtain ⟨j, h1, h2, h3⟩ := lpR_to l x.k l.length x hlp
  obtain ⟨_, hadj, _⟩ := afGo_ok l none (by omega)
  have hup := asc_of_adj hadj
  have hno : ∀ y ∈ l, y.p ≠ emp → parO l y ∈ l := fun y hy hyp => by
   rcases idxA_rng l y.p with h1 | h1
   ·exact absurd (List.any_eq_true.2 ⟨y, hy, decide_eq_true ⟨hyp, by omega⟩⟩) c3
   ·exact getD_mem l _ (by omega)
  have hmem : ∀ i, i ≤ j + 1 → itr l i x ∈ l := fun i => by
   induction i with
   | zero => intro _; exact hx
   | succ i ih => intro hi; rw [itr_succ]; exact hno _ (ih (by omega)) (h2 i (by omega))
  have huniq : ∀ y ∈ l, ∀ z ∈ l, y.k = z.k → y = z := fun y hy z hz e => by
   obtain ⟨a, ha, rfl⟩ := List.getElem_of_mem hy
   obtain ⟨b, hb, rfl⟩ := List.getElem_of_mem hz
   have ea : l.getD a default = l[a] := by simp [List.getD, ha]
   have eb : l.getD b default = l[b] := by simp [List.getD, hb]
   rcases Nat.lt_trichotomy a b with h | h | h
   ·have := hup a b h hb; rw [ea, eb, e] at this; exact absurd this (ltS_irr _)
   ·subst h; rfl
   ·have := hup b a h ha; rw [ea, eb, e] at this; exact absurd this (ltS_irr _)
  have hcyc : itr l (j + 1) x = x := huniq _ (hmem _ (Nat.le_refl _)) x hx h3
  have hper : ∀ m i, i ≤ m → itr l i x ∈ l ∧ (itr l i x).p ≠ emp := fun m => by
   induction m with
   | zero => intro i hi; rw [show i = 0 by omega]; exact ⟨hx, h2 0 (by omega)⟩
   | succ m ih =>
    intro i hi
    by_cases hj : i ≤ j
    ·exact ⟨hmem i (by omega), h2 i hj⟩
    ·have e : itr l i x = itr l (i - (j + 1)) x := by
      conv => lhs; rw [show i = (j + 1) + (i - (j + 1)) by omega, itr_add, hcyc]
     rw [e]; exact ih _ (by omega)
  refine List.any_eq_true.2 ⟨x, hx, decide_eq_true ?_⟩
  rw [parA_full l (l.length + 1) x fun j _ => (hper j j (Nat.le_refl _)).2]
  omega
 ·rw [if_neg c4] at h0; exact absurd rfl h0
end Go.Proofs.YtfgkpbkphmeigaaGreatDoor

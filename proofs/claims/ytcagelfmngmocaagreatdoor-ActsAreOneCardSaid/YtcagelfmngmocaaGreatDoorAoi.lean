
/-
 Without the acts that are ignored the states are the same. Plain laws.
-/
import Derived.Test.YtcagelfmngmocaaGreatDoorAon
namespace Go.Proofs.YtcagelfmngmocaaGreatDoor
open Go Go.Ai
set_option linter.unusedSimpArgs false
set_option linter.unusedVariables false
set_option maxHeartbeats 4000000
def ignE (a : List Opr) (e : Ev) (s : Sit) : Bool := decide (e.k = 2) && (decide (e.al < 0) || !(actX (s.st.getD e.al.toNat default) (a.getD e.ac.toNat default)).2)
def UnOk (s : List Sta) : Prop := ∀ i, 0 ≤ (s.getD i default).un
structure Sm (s t : Sit) : Prop where
 st : s.st = t.st
 td : s.td = t.td
 out : s.out = t.out
theorem Sm.rfl (s : Sit) : Sm s s := ⟨Eq.refl _, Eq.refl _, Eq.refl _⟩
theorem Sm.symm {s t : Sit} (h : Sm s t) : Sm t s := ⟨h.1.symm, h.2.symm, h.3.symm⟩
theorem Sm.trans {s t u : Sit} (h : Sm s t) (g : Sm t u) : Sm s u := ⟨h.1.trans g.1, h.2.trans g.2, h.3.trans g.3⟩
theorem getD_set' {α : Type} [Inhabited α] (l : List α) (i j : Nat) (x : α) : (l.set i x).getD j default = if i = j ∧ i < l.length then x else l.getD j default := by
 by_cases h : i = j
 ·subst h
  by_cases h2 : i < l.length
  ·rw [if_pos ⟨Eq.refl _, h2⟩, List.getD_eq_getElem?_getD, List.getElem?_set_self h2]; simp
  ·rw [if_neg (fun hh => h2 hh.2), List.set_eq_of_length_le (by omega)]
 ·rw [if_neg (fun hh => h hh.1), List.getD_eq_getElem?_getD, List.getElem?_set_ne h, ← List.getD_eq_getElem?_getD]
theorem getD_out {α : Type} [Inhabited α] (l : List α) (i : Nat) (h : l.length ≤ i) : l.getD i default = default := by
 rw [List.getD_eq_getElem?_getD, List.getElem?_eq_none h]; rfl
theorem set_own {α : Type} [Inhabited α] (l : List α) (i : Nat) : l.set i (l.getD i default) = l := by
 by_cases h : i < l.length
 ·exact set_same l i h
 ·exact List.set_eq_of_length_le (by omega)
theorem UnOk.set {s : List Sta} (h : UnOk s) (i : Nat) {x : Sta} (hx : 0 ≤ x.un) : UnOk (s.set i x) := fun j => by
 rw [getD_set']; split
 ·exact hx
 ·exact h j
theorem actX_ign {x : Sta} {y : Opr} (hx : 0 ≤ x.un) (h : (actX x y).2 = false) : (actX x y).1 = x := by
 unfold actX at *
 split at h
 ·simp at h
 ·split at h
  ·simp only [decide_eq_false_iff_not] at h
   rw [if_neg (by assumption), if_pos (by assumption)]
   cases x; simp only at h hx; simp; omega
  ·split at h
   ·simp at h
   ·split at h
    ·simp at h
    ·rw [if_neg (by assumption), if_neg (by assumption), if_neg (by assumption), if_neg (by assumption)]
theorem actX_un {x : Sta} {y : Opr} (hx : 0 ≤ x.un) (hy : y.kd = 2 → 0 ≤ y.un) : 0 ≤ (actX x y).1.un := by
 unfold actX
 (repeat' split) <;> first | exact hy (by assumption) | exact hx | exact Int.le_refl 0
theorem turnX_un {lt : Bool} {x : Sta} {e : Ev} (hx : 0 ≤ x.un) : 0 ≤ (turnX lt x e).un := by
 unfold turnX
 (repeat' split) <;> first | exact hx | exact Int.le_refl 0
theorem appE_un {l : List Alm} {a : List Opr} {e : Ev} {s : Sit} (h : UnOk s.st) (ha : ∀ y : Opr, y = a.getD e.ac.toNat default → y.kd = 2 → 0 ≤ y.un) : UnOk (appE l a e s).st := by
 unfold appE
 split
 ·split
  ·exact h
  ·exact h.set _ (actX_un (h _) (ha _ (Eq.refl _)))
 ·exact h.set _ (turnX_un (h _))
theorem ign_same {l : List Alm} {a : List Opr} {e : Ev} {s : Sit} (h : UnOk s.st) (hi : ignE a e s = true) : appE l a e s = { s with ig := s.ig ++ [e.ac] } := by
 unfold ignE at hi
 simp only [Bool.and_eq_true, decide_eq_true_eq, Bool.or_eq_true, Bool.not_eq_true'] at hi
 unfold appE
 rw [if_pos hi.1]
 split
 ·rfl
 ·rcases hi.2 with h2 | h2
  ·omega
  ·rw [actX_ign (h _) h2, set_own, if_neg (by rw [h2]; simp)]
theorem ign_not {l : List Alm} {a : List Opr} {e : Ev} {s : Sit} (hi : ignE a e s = false) : (appE l a e s).ig = s.ig := by
 unfold ignE at hi
 unfold appE
 split
 ·rename_i h1
  rw [decide_eq_true h1] at hi
  simp only [Bool.true_and, Bool.or_eq_false_iff, decide_eq_false_iff_not, Bool.not_eq_false'] at hi
  rw [if_neg hi.1]
  simp only
  rw [if_pos hi.2]
 ·rfl
theorem appE_sm {l : List Alm} {a : List Opr} {e : Ev} {s t : Sit} (h : Sm s t) : Sm (appE l a e s) (appE l a e t) := by
 obtain ⟨h1, h2, h3⟩ := h
 unfold appE
 rw [h1]
 (repeat' split) <;> exact ⟨by simp only [h1], h2, h3⟩
theorem rptX_sm {up : List (List Int)} {t : Int} {i : Nat} {s u : Sit} (h : Sm s u) : Sm (rptX up t i s) (rptX up t i u) := by
 obtain ⟨h1, h2, h3⟩ := h
 unfold rptX
 rw [h1, h2, h3]
 split
 ·exact ⟨Eq.refl _, Eq.refl _, Eq.refl _⟩
 ·exact ⟨h1, h2, h3⟩
theorem rptE_sm {up : List (List Int)} {t : Int} : ∀ (n i : Nat) {s u : Sit}, Sm s u → Sm (rptE up t n i s) (rptE up t n i u)
 | 0, i, s, u, h => h
 | n + 1, i, s, u, h => by rw [rptE_succ, rptE_succ]; exact rptE_sm n (i + 1) (rptX_sm h)
theorem rptE_st (up : List (List Int)) (t : Int) : ∀ (n i : Nat) (s : Sit), (rptE up t n i s).st = s.st ∧ (rptE up t n i s).ig = s.ig
 | 0, i, s => ⟨rfl, rfl⟩
 | n + 1, i, s => by
  have h1 := rptX_len up t i s
  have h2 := rptE_st up t n (i + 1) (rptX up t i s)
  rw [rptE_succ]; exact ⟨h2.1.trans h1.1, h2.2.trans h1.2.2⟩
def Sync (up : List (List Int)) (n : Nat) (s : Sit) : Prop := ∀ i, i < n → repX up s.st i = (s.td.getD i default).st
theorem Sync.sm {up : List (List Int)} {n : Nat} {s t : Sit} (h : Sync up n s) (g : Sm s t) : Sync up n t := fun i hi => by rw [← g.st, ← g.td]; exact h i hi
theorem rptE_id {up : List (List Int)} {t : Int} {m : Nat} {s : Sit} (h : Sync up m s) : ∀ (n i : Nat), i + n ≤ m → rptE up t n i s = s
 | 0, i, _ => rfl
 | n + 1, i, hn => by
  rw [rptE_succ, show rptX up t i s = s from ?_, rptE_id h n (i + 1) (by omega)]
  unfold rptX
  rw [if_neg (by rw [h i (by omega)]; simp)]
theorem rptE_sync (up : List (List Int)) (t : Int) : ∀ (n i : Nat) (s : Sit), i + n ≤ s.td.length → Sync up i s → Sync up (i + n) (rptE up t n i s)
 | 0, i, s, _, h => h
 | n + 1, i, s, hn, h => by
  rw [rptE_succ, show i + (n + 1) = (i + 1) + n by omega]
  have h1 := rptX_len up t i s
  refine rptE_sync up t n (i + 1) _ (by rw [h1.2.1]; omega) fun j hj => ?_
  rw [h1.1]
  unfold rptX
  split
  ·rename_i hc
   simp only
   rw [getD_set']
   split
   ·rename_i hh; rw [← hh.1]
   ·rename_i hh
    exact h j (by have : i ≠ j := fun e => hh ⟨e, by omega⟩; omega)
  ·rename_i hc
   by_cases e : j = i
   ·subst e; exact Classical.not_not.1 hc
   ·exact h j (by omega)
def nxE (l : List Alm) (a : List Opr) (e : Ev) (r : List Ev) (s : Sit) : Sit := if hdAt r e.a = true then appE l a e s else rptE (upA l) e.a l.length 0 (appE l a e s)
theorem runE_nx {l : List Alm} {a : List Opr} {to : Int} {e : Ev} {r : List Ev} {s : Sit} (h : ¬to < e.a) : runE l a to (e :: r) s = runE l a to r (nxE l a e r s) := by
 rw [runE, if_neg h]; rfl
def KeepOk (l : List Alm) (a : List Opr) (to : Int) (q : Ev → Bool) : List Ev → Sit → Prop
 | [], _ => True
 | e :: r, s => to < e.a ∨ (q e = !ignE a e s ∧ KeepOk l a to q r (nxE l a e r s))
theorem runE_late {l : List Alm} {a : List Opr} {to : Int} {s : Sit} : ∀ (ev : List Ev), (∀ x ∈ ev, to < x.a) → runE l a to ev s = s
 | [], _ => rfl
 | e :: r, h => by rw [runE, if_pos (h e (by simp))]
theorem hdAt_no {ev : List Ev} {t : Int} (h : ∀ x ∈ ev, t < x.a) : hdAt ev t = false := by
 cases ev with
 | nil => rfl
 | cons e r => exact decide_eq_false (by have := h e (by simp); omega)
theorem nxE_td {l : List Alm} {a : List Opr} {e : Ev} {r : List Ev} {s : Sit} (h : s.td.length = l.length) : (nxE l a e r s).td.length = l.length := by
 unfold nxE
 split
 ·rw [(appE_len l a e s).2.1]; exact h
 ·rw [rptE_len, (appE_len l a e s).2.1]; exact h
theorem nxE_un {l : List Alm} {a : List Opr} {e : Ev} {r : List Ev} {s : Sit} (h : UnOk s.st) (ha : ∀ y ∈ a, y.kd = 2 → 0 ≤ y.un) : UnOk (nxE l a e r s).st := by
 have h1 : UnOk (appE l a e s).st := appE_un h fun y hy hk => by
  by_cases hc : e.ac.toNat < a.length
  ·exact ha y (by rw [hy]; exact mem_at hc) hk
  ·rw [getD_out _ _ (by omega)] at hy
   subst hy; exact Int.le_refl 0
 unfold nxE
 split
 ·exact h1
 ·rw [(rptE_st _ _ _ _ _).1]; exact h1
def KInv (l : List Alm) (to : Int) (q : Ev → Bool) : List Ev → Sit → Sit → Prop
 | [], s, t => Sm t s
 | e :: r, s, t => (Sm t s ∧ (hdAt ((e :: r).filter q) e.a = true ∨ Sync (upA l) l.length s)) ∨ (hdAt ((e :: r).filter q) e.a = false ∧ e.a ≤ to ∧ Sm t (rptE (upA l) e.a l.length 0 s))
theorem kinv_new {l : List Alm} {to : Int} {q : Ev → Bool} {s t : Sit} (h : Sm t s) (hs : Sync (upA l) l.length s) : ∀ r, KInv l to q r s t
 | [] => h
 | e :: r => .inl ⟨h, .inr hs⟩
theorem run_keep {l : List Alm} {a : List Opr} {T to : Int} {q : Ev → Bool} (hto : to ≤ T) (ha : ∀ y ∈ a, y.kd = 2 → 0 ≤ y.un) : ∀ (ev : List Ev) (s t : Sit), (ev.Pairwise fun x y => x.a ≤ y.a) → KeepOk l a T q ev s → UnOk s.st → s.td.length = l.length → t.ig = [] → KInv l to q ev s t →
  Sm (runE l a to (ev.filter q) t) (runE l a to ev s) ∧ (runE l a to (ev.filter q) t).ig = []
 | [], s, t, _, _, _, _, hg, hI => ⟨hI, hg⟩
 | e :: r, s, t, hp, hk, hu, hl, hg, hI => by
  obtain ⟨hp1, hp2⟩ := List.pairwise_cons.1 hp
  by_cases hc : to < e.a
  ·have h1 : ∀ x ∈ (e :: r).filter q, to < x.a := fun x hx => by
    rcases List.mem_cons.1 (List.mem_filter.1 hx).1 with rfl | hx
    ·exact hc
    ·have := hp1 x hx; omega
   rw [runE_late _ h1, runE, if_pos hc]
   rcases hI with hI | hI
   ·exact ⟨hI.1, hg⟩
   ·omega
  ·rcases hk with hk | ⟨hq, hk⟩
   ·omega
   have hlen : (appE l a e s).td.length = l.length := by rw [(appE_len l a e s).2.1]; exact hl
   have hsy : Sync (upA l) l.length (rptE (upA l) e.a l.length 0 (appE l a e s)) := by
    have := rptE_sync (upA l) e.a l.length 0 (appE l a e s) (by omega) (fun j hj => by omega)
    rwa [Nat.zero_add] at this
   have hno : ∀ e2 r2, r = e2 :: r2 → ¬e2.a = e.a → hdAt (r.filter q) e.a = false := fun e2 r2 hr he => hdAt_no fun x hx => by
    have hx := (List.mem_filter.1 hx).1
    subst hr
    have h2 := hp1 e2 (by simp)
    rcases List.mem_cons.1 hx with rfl | hx
    ·omega
    ·have := (List.pairwise_cons.1 hp2).1 x hx; omega
   rw [runE_nx hc]
   by_cases hi : ignE a e s = true
   ·rw [hi] at hq
    have hsm : Sm (appE l a e s) s := by rw [ign_same hu hi]; exact ⟨rfl, rfl, rfl⟩
    rw [List.filter_cons_of_neg (by rw [hq]; simp)]
    refine run_keep hto ha r _ t hp2 hk (nxE_un hu ha) (nxE_td hl) hg ?_
    simp only [KInv] at hI
    rw [List.filter_cons_of_neg (by rw [hq]; simp)] at hI
    have hlate : hdAt (r.filter q) e.a = false → Sm t (rptE (upA l) e.a l.length 0 (appE l a e s)) := fun h0 => by
     rcases hI with ⟨h1, h2⟩ | ⟨_, _, h3⟩
     ·rcases h2 with h2 | h2
      ·rw [h0] at h2; simp at h2
      ·have g := rptE_sm (up := upA l) (t := e.a) l.length 0 hsm.symm
       rw [rptE_id (t := e.a) h2 l.length 0 (by omega)] at g
       exact h1.trans g
     ·exact h3.trans (rptE_sm _ _ hsm.symm)
    cases r with
    | nil => exact hlate rfl
    | cons e2 r2 =>
     by_cases he : e2.a = e.a
     ·rw [show nxE l a e (e2 :: r2) s = appE l a e s from if_pos (decide_eq_true he)]
      simp only [KInv]
      rw [he]
      rcases hI with ⟨h1, h2⟩ | ⟨h1, h2, h3⟩
      ·exact .inl ⟨h1.trans hsm.symm, h2.imp id fun h => h.sm hsm.symm⟩
      ·exact .inr ⟨h1, h2, h3.trans (rptE_sm _ _ hsm.symm)⟩
     ·rw [show nxE l a e (e2 :: r2) s = rptE (upA l) e.a l.length 0 (appE l a e s) from if_neg (by simp [hdAt, he])]
      exact kinv_new (hlate (hno _ _ rfl he)) hsy _
   ·have hi' : ignE a e s = false := by simpa using hi
    rw [hi'] at hq
    simp only [KInv] at hI
    rw [List.filter_cons_of_pos (by rw [hq]; rfl)] at hI ⊢
    have hsm : Sm t s := by
     rcases hI with hI | hI
     ·exact hI.1
     ·have := hI.1; simp [hdAt] at this
    have hgt : (appE l a e t).ig = [] := by
     rw [ign_not (by unfold ignE at hi' ⊢; rw [hsm.st]; exact hi'), hg]
    rw [runE_nx hc]
    refine run_keep hto ha r _ _ hp2 hk (nxE_un hu ha) (nxE_td hl) ?_ ?_
    ·unfold nxE
     split
     ·exact hgt
     ·rw [(rptE_st _ _ _ _ _).2]; exact hgt
    ·cases r with
     | nil => exact rptE_sm _ _ (appE_sm hsm)
     | cons e2 r2 =>
      by_cases he : e2.a = e.a
      ·rw [show nxE l a e (e2 :: r2) s = appE l a e s from if_pos (decide_eq_true he)]
       simp only [KInv]
       rw [he]
       by_cases hh : hdAt ((e2 :: r2).filter q) e.a = true
       ·rw [show nxE l a e ((e2 :: r2).filter q) t = appE l a e t from if_pos hh]
        exact .inl ⟨appE_sm hsm, .inl hh⟩
       ·rw [show nxE l a e ((e2 :: r2).filter q) t = rptE (upA l) e.a l.length 0 (appE l a e t) from if_neg hh]
        exact .inr ⟨by simpa using hh, by omega, rptE_sm _ _ (appE_sm hsm)⟩
      ·rw [show nxE l a e (e2 :: r2) s = rptE (upA l) e.a l.length 0 (appE l a e s) from if_neg (by simp [hdAt, he]), show nxE l a e ((e2 :: r2).filter q) t = rptE (upA l) e.a l.length 0 (appE l a e t) from if_neg (by rw [hno _ _ rfl he]; simp)]
       exact kinv_new (rptE_sm _ _ (appE_sm hsm)) hsy _
end Go.Proofs.YtcagelfmngmocaaGreatDoor

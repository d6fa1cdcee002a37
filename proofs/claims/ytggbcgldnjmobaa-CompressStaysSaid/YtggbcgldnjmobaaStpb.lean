
/-
  A stepped tag has the same values when only its steps are kept.
-/
import Derived.Test.YtggbcgldnjmobaaStp
import Derived.Test.YtggbcgldnjmobaaPts
import Derived.Test.YtggbcgldnjmobaaGenC
namespace Go.Proofs.Ytggbcgldnjmobaa
open Go Go.Ai
set_option linter.unusedSimpArgs false
set_option linter.unusedVariables false
set_option maxHeartbeats 4000000
/-- The last sample up to a moment, behind another one. -/
def lastLe (at_ : Int) : Option Smp → List Smp → Option Smp
  | o, [] => o
  | o, x :: r => lastLe at_ (if x.a ≤ at_ then some x else o) r
theorem lastLe_hold (at_ : Int) (L : List Smp) : ∀ (l : List Smp) (i k : Int) (o : Option Smp), 0 ≤ i → L.drop i.toNat = l → -1 ≤ k → k < i → (o = if k < 0 then none else some (L.getD k.toNat default)) → lastLe at_ o l = if holdGo at_ l i k < 0 then none else some (L.getD (holdGo at_ l i k).toNat default)
  | [], i, k, o, _, _, _, _, ho => by rw [lastLe, holdGo]; exact ho
  | x :: r, i, k, o, h0, hL, hk, hk2, ho => by
    have e2 : (i + 1).toNat = i.toNat + 1 := by omega
    have hlt : i.toNat < L.length := by
      rcases Nat.lt_or_ge i.toNat L.length with h | h
      · exact h
      · rw [List.drop_eq_nil_of_le h] at hL; cases hL
    rw [drop_cons L i.toNat hlt] at hL
    injection hL with hx hr
    rw [lastLe, holdGo]
    refine lastLe_hold at_ L r (i + 1) _ _ (by omega) (by rw [e2]; exact hr) (by split <;> omega) (by split <;> omega) ?_
    by_cases hc : x.a ≤ at_
    · rw [if_pos hc, if_pos hc, if_neg (by omega), hx]
    · rw [if_neg hc, if_neg hc]; exact ho
theorem valSp_last (l : List Smp) (hg : Good l) (at_ : Int) : valSp l true at_ = match lastLe at_ none l with | none => (ptZ, false) | some p => (⟨at_, p.v, 1, p.q⟩, true) := by
  have h := lastLe_hold at_ l l 0 (-1) none (by omega) rfl (by omega) (by omega) rfl
  rw [h]
  unfold valSp hold
  by_cases hk : holdGo at_ l 0 (-1) < 0
  · simp only [if_pos hk]
  · simp only [if_neg hk, or_true, true_or, if_true]
/-- Samples of which only those are kept that p says, one after the other. -/
def sel (p : Int → Bool) : Int → List Smp → List Smp
  | _, [] => []
  | i, x :: r => (if p i = true then [x] else []) ++ sel p (i + 1) r
theorem kep_stpW (l : List Smp) : ∀ n, n ≤ l.length → kep l (stpW l n) ++ sel (stepB l) n (l.drop n) = sel (stepB l) 0 l
  | 0, _ => by simp [kep, stpW]
  | n + 1, h => by
    have ih := kep_stpW l n (by omega)
    rw [drop_cons l n (by omega), sel] at ih
    have e : ((n + 1 : Nat) : Int) = (n : Int) + 1 := by omega
    rw [← ih, stpW, e]
    unfold kep
    rw [List.map_append, List.append_assoc]
    congr 1
    by_cases hb : stepB l n = true
    · rw [if_pos hb, if_pos hb]; simp
    · rw [if_neg hb, if_neg hb]; simp
def vq (o : Option Smp) : Option (Int × Int) := o.map fun x => (x.v, x.q)
/-- What is left out changes nothing. -/
theorem sel_last (at_ : Int) (L : List Smp) (hg : Good L) (p : Int → Bool) (hp : ∀ i : Int, 0 ≤ i → i < L.length → p i = false → 0 < i ∧ (L.getD i.toNat default).v = (L.getD (i - 1).toNat default).v ∧ (L.getD i.toNat default).q = (L.getD (i - 1).toNat default).q) :
    ∀ (l : List Smp) (i : Int) (o o' : Option Smp), 0 ≤ i → L.drop i.toNat = l → vq o = vq o' → (0 < i → (L.getD (i - 1).toNat default).a ≤ at_ → o = some (L.getD (i - 1).toNat default)) → vq (lastLe at_ o l) = vq (lastLe at_ o' (sel p i l))
  | [], i, o, o', _, _, h, _ => h
  | x :: r, i, o, o', h0, hL, h, hpr => by
    have e2 : (i + 1).toNat = i.toNat + 1 := by omega
    have hlt : i.toNat < L.length := by
      rcases Nat.lt_or_ge i.toNat L.length with h | h
      · exact h
      · rw [List.drop_eq_nil_of_le h] at hL; cases hL
    rw [drop_cons L i.toNat hlt] at hL
    injection hL with hx hr
    have e3 : (i + 1 - 1).toNat = i.toNat := by omega
    rw [lastLe, sel]
    by_cases hb : p i = true
    · rw [if_pos hb, List.singleton_append, lastLe]
      refine sel_last at_ L hg p hp r (i + 1) _ _ (by omega) (by rw [e2]; exact hr) ?_ (fun _ h' => ?_)
      · split
        · rfl
        · exact h
      · rw [e3] at h' ⊢; rw [hx] at h' ⊢; rw [if_pos h']
    · rw [if_neg hb, List.nil_append]
      have hb' : p i = false := by cases hh : p i with | true => exact absurd hh hb | false => rfl
      obtain ⟨h1, h2, h3⟩ := hp i h0 (by omega) hb'
      refine sel_last at_ L hg p hp r (i + 1) _ _ (by omega) (by rw [e2]; exact hr) ?_ (fun _ h' => ?_)
      · by_cases hc : x.a ≤ at_
        · rw [if_pos hc]
          have hup := hg.up (i - 1).toNat i.toNat (by omega) hlt
          rw [hx] at hup h2 h3
          have h4 := hpr h1 (by omega)
          rw [← h, h4]
          simp only [vq, Option.map_some, h2, h3]
        · rw [if_neg hc]; exact h
      · rw [e3] at h' ⊢; rw [hx] at h' ⊢; rw [if_pos h']
theorem sel_mem (p : Int → Bool) : ∀ (l : List Smp) (i : Int), ∀ x ∈ sel p i l, x ∈ l
  | [], i, x, h => by cases h
  | y :: r, i, x, h => by
    rw [sel, List.mem_append] at h
    rcases h with h | h
    · split at h
      · simp only [List.mem_cons, List.not_mem_nil, or_false] at h; simp [h]
      · cases h
    · exact List.mem_cons_of_mem _ (sel_mem p r (i + 1) x h)
theorem stpW_all (l : List Smp) : ∀ n, ∀ k ∈ stpW l n, 0 ≤ k ∧ k < n
  | 0, k, h => by cases h
  | n + 1, k, h => by
    rw [stpW, List.mem_append] at h
    rcases h with h | h
    · have := stpW_all l n k h; omega
    · split at h
      · simp only [List.mem_cons, List.not_mem_nil, or_false] at h; omega
      · cases h
theorem kfGo_app (n : Int) (x : Int) (hx : 0 ≤ x ∧ x < n) : ∀ (l : List Int) (p : Option Int), kfGo n p l = 0 → (∀ k ∈ l, k < x) → (∀ j, p = some j → j < x) → kfGo n p (l ++ [x]) = 0
  | [], p, _, _, hp => by
    rw [List.nil_append, kfGo, if_neg (by omega)]
    cases p with
    | none => rfl
    | some j => have := hp j rfl; rw [if_neg (by simp [leO]; omega)]; rfl
  | y :: r, p, h, hl, hp => by
    rw [kfGo] at h
    rw [List.cons_append, kfGo]
    split at h
    · omega
    · rename_i h1
      rw [if_neg h1]
      split at h
      · omega
      · rename_i h2
        rw [if_neg h2]
        exact kfGo_app n x hx r (some y) h (fun k hk => hl k (by simp [hk])) (fun j hj => by injection hj with hj; subst hj; exact hl _ (by simp))
theorem kfGo_stpW (l : List Smp) : ∀ n, n ≤ l.length → kfGo l.length none (stpW l n) = 0
  | 0, _ => rfl
  | n + 1, h => by
    rw [stpW]
    split
    · exact kfGo_app _ _ (by omega) _ _ (kfGo_stpW l n (by omega)) (fun k hk => (stpW_all l n k hk).2) (fun j hj => by cases hj)
    · rw [List.append_nil]; exact kfGo_stpW l n (by omega)
def ltO (p : Option Smp) (x : Smp) : Prop := ∀ y, p = some y → y.a < x.a
theorem serGo_c {p : Option Smp} {x : Smp} {r : List Smp} : serGo p (x :: r) = 0 ↔ smpFault x = 0 ∧ ltO p x ∧ serGo (some x) r = 0 := by
  rw [serGo.eq_def]
  cases p with
  | none =>
    simp only [Bool.false_eq_true, if_false]
    constructor
    · intro h
      split at h
      · contradiction
      · exact ⟨by omega, (fun y hy => by cases hy), h⟩
    · rintro ⟨h1, _, h3⟩
      rw [if_neg (by omega)]; exact h3
  | some z =>
    simp only [decide_eq_true_eq]
    constructor
    · intro h
      split at h
      · contradiction
      · split at h
        · omega
        · exact ⟨by omega, (fun y hy => by injection hy with hy; subst hy; omega), h⟩
    · rintro ⟨h1, h2, h3⟩
      have := h2 z rfl
      rw [if_neg (by omega), if_neg (by omega)]; exact h3
theorem serGo_sub {l' l : List Smp} (h : List.Sublist l' l) : ∀ (p p' : Option Smp), serGo p l = 0 → (∀ x, ltO p x → ltO p' x) → serGo p' l' = 0 := by
  induction h with
  | slnil => intro p p' _ _; rfl
  | cons x _ ih =>
    intro p p' h hp
    obtain ⟨h1, h2, h3⟩ := serGo_c.1 h
    refine ih (some x) p' h3 (fun z hz y hy => ?_)
    have h4 := hp x h2 y hy
    have h5 := hz x rfl
    omega
  | cons_cons x _ ih =>
    intro p p' h hp
    obtain ⟨h1, h2, h3⟩ := serGo_c.1 h
    exact serGo_c.2 ⟨h1, hp x h2, ih (some x) (some x) h3 (fun _ hz => hz)⟩
theorem serFault_sub {l' l : List Smp} (h : List.Sublist l' l) (hs : serFault l = 0) : serFault l' = 0 := by
  obtain ⟨h1, h2⟩ := serFault_ok hs
  have h3 := h.length_le
  unfold serFault
  rw [if_neg (by omega)]
  exact serGo_sub h none none h2 (fun _ hx => hx)
theorem sel_sub (p : Int → Bool) : ∀ (l : List Smp) (i : Int), List.Sublist (sel p i l) l
  | [], i => by rw [sel]; exact List.Sublist.slnil
  | x :: r, i => by
    rw [sel]
    split
    · exact (sel_sub p r (i + 1)).cons_cons x
    · exact (sel_sub p r (i + 1)).cons x
theorem vaSp_good {l : List Smp} {at_ : Int} (st : Bool) (hs : serFault l = 0) (ha : 0 ≤ at_ ∧ at_ ≤ 345686399999) : vaSp l st at_ = ((valSp l st at_).1, (valSp l st at_).2, 0) := by
  apply vaSp_ok
  have : momFault at_ = 0 := by unfold momFault; rw [if_pos ha]
  rw [hs, this]; rfl
end Go.Proofs.Ytggbcgldnjmobaa

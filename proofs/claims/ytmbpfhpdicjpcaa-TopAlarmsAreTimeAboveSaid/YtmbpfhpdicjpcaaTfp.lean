
/-
  An alarm without delays is active in the frames of a trigger (plain law).
-/
import Derived.Test.YtmbpfhpdicjpcaaFrl
import Derived.Test.YtmbpfhpdicjpcaaActb
namespace Go.Proofs.Ytmbpfhpdicjpcaa
open Go Go.Ai
set_option linter.unusedSimpArgs false
set_option linter.unusedVariables false
set_option maxHeartbeats 4000000
theorem act_step {lim db un nx : Int} (hdb : 0 ≤ db) (s : Smp) (hnx : s.a < nx) (x : ActX) (k1 : x.h1 = true → x.t1 ≤ s.a) (k2 : x.h2 = true → x.t2 ≤ s.a) :
    ((actOn 0 0 un nx s.a (hldSp 1 lim db s).1 (hldSp 1 lim db s).2 x).out, (actOn 0 0 un nx s.a (hldSp 1 lim db s).1 (hldSp 1 lim db s).2 x).act) = rawStep (lim + 1) (lim - db + 1) un (x.out, x.act) s ∧
    ((actOn 0 0 un nx s.a (hldSp 1 lim db s).1 (hldSp 1 lim db s).2 x).h1 = true → (actOn 0 0 un nx s.a (hldSp 1 lim db s).1 (hldSp 1 lim db s).2 x).t1 ≤ s.a) ∧
    ((actOn 0 0 un nx s.a (hldSp 1 lim db s).1 (hldSp 1 lim db s).2 x).h2 = true → (actOn 0 0 un nx s.a (hldSp 1 lim db s).1 (hldSp 1 lim db s).2 x).t2 ≤ s.a) := by
  obtain ⟨out, act, t1, t2, h1, h2⟩ := x
  simp only at k1 k2
  have e1 : max s.a ((if h1 = false then s.a else t1) + 0) = s.a := by
    cases h1 with
    | false => simp
    | true => have := k1 rfl; simp; omega
  have e2 : max s.a ((if h2 = false then s.a else t2) + 0) = s.a := by
    cases h2 with
    | false => simp
    | true => have := k2 rfl; simp; omega
  have f1 : (if h1 = false then s.a else t1) ≤ s.a := by
    cases h1 with
    | false => simp
    | true => have := k1 rfl; simpa using this
  have f2 : (if h2 = false then s.a else t2) ≤ s.a := by
    cases h2 with
    | false => simp
    | true => have := k2 rfl; simpa using this
  unfold hldSp rawStep
  rw [if_pos rfl]
  by_cases c1 : s.q = 2
  · rw [decide_eq_false (fun h => h.1 c1), decide_eq_false (fun h => h.1 c1), actOn_n, if_pos (.inr c1)]
    exact ⟨rfl, by simp, by simp⟩
  by_cases c2 : s.v > lim
  · rw [decide_eq_true ⟨c1, c2⟩, decide_eq_false (fun h => by omega), actOn_x]
    generalize (if h1 = false then s.a else t1) = T1 at *
    rw [e1]
    simp only []
    by_cases c3 : s.a < un
    · rw [if_neg (show ¬(s.a ≥ un ∨ s.q = 2) by omega)]
      cases act with
      | false =>
        rw [if_pos ⟨rfl, hnx, c3⟩, if_pos ⟨rfl, by omega⟩]
        exact ⟨rfl, fun _ => f1, by simp⟩
      | true =>
        rw [if_neg (fun h => by simp at h), if_neg (fun h => by simp at h), if_neg (fun h => by have := h.2; omega)]
        exact ⟨rfl, fun _ => f1, by simp⟩
    · rw [if_neg (fun h => c3 h.2.2), if_pos (.inl (by omega))]
      exact ⟨rfl, fun _ => f1, by simp⟩
  by_cases c4 : s.v ≤ lim - db
  · rw [decide_eq_false (fun h => by omega), decide_eq_true ⟨c1, c4⟩, actOn_y]
    generalize (if h2 = false then s.a else t2) = T2 at *
    rw [e2]
    simp only []
    by_cases c3 : s.a < un
    · rw [if_neg (show ¬(s.a ≥ un ∨ s.q = 2) by omega), if_neg (show ¬(act = false ∧ s.v ≥ lim + 1) from fun h => by have := h.2; omega)]
      cases act with
      | false =>
        rw [if_neg (fun h => by simp at h), if_neg (fun h => by simp at h)]
        exact ⟨rfl, by simp, fun _ => f2⟩
      | true =>
        rw [if_pos ⟨rfl, hnx, c3⟩, if_pos ⟨rfl, by omega⟩]
        exact ⟨rfl, by simp, fun _ => f2⟩
    · rw [if_neg (fun h => c3 h.2.2), if_pos (.inl (by omega))]
      exact ⟨rfl, by simp, fun _ => f2⟩
  · rw [decide_eq_false (fun h => by omega), decide_eq_false (fun h => by omega), actOn_n]
    by_cases c3 : s.a < un
    · rw [if_neg (show ¬(s.a ≥ un ∨ s.q = 2) by omega), if_neg (fun h => by have := h.2; omega), if_neg (fun h => by have := h.2; omega)]
      exact ⟨rfl, by simp, by simp⟩
    · rw [if_pos (.inl (by omega))]
      exact ⟨rfl, by simp, by simp⟩
theorem act_raw {lim db un : Int} (hdb : 0 ≤ db) : ∀ (l : List Smp) (lo : Int) (x : ActX), Asc lo l → (x.h1 = true → x.t1 ≤ lo) → (x.h2 = true → x.t2 ≤ lo) → (actGo 1 lim db 0 0 un l x).out = (l.foldl (rawStep (lim + 1) (lim - db + 1) un) (x.out, x.act)).1
  | [], lo, x, _, _, _ => rfl
  | [s], lo, x, h, k1, k2 => by
    have h1 := h.1
    have h2 := h.2.1
    unfold okSmp at h2
    obtain ⟨e, _⟩ := act_step hdb s (nx := 345686400000) (un := un) (lim := lim) (by omega) x (fun h => by have := k1 h; omega) (fun h => by have := k2 h; omega)
    rw [actGo, List.foldl_cons, List.foldl_nil, ← e]
  | s :: s' :: r, lo, x, h, k1, k2 => by
    obtain ⟨h1, h2, h3⟩ := h
    have h4 := h3.1
    obtain ⟨e, j1, j2⟩ := act_step hdb s (nx := s'.a) (un := un) (lim := lim) (by omega) x (fun h => by have := k1 h; omega) (fun h => by have := k2 h; omega)
    rw [actGo, List.foldl_cons, ← e]
    exact act_raw hdb (s' :: r) (s.a + 1) _ h3 (fun h => by have := j1 h; omega) (fun h => by have := j2 h; omega)
/-- A high alarm without delays. -/
theorem actW_raw {lim db un : Int} (hdb : 0 ≤ db) {l : List Smp} (h : Asc 0 l) : actW 1 lim db 0 0 un l = rawW (lim + 1) (lim - db + 1) un l := by
  unfold actW rawW
  exact act_raw hdb l 0 _ h (by simp) (by simp)
theorem actSp_ok {lim db un : Int} {l : List Smp} (hlim : -1000000 ≤ lim ∧ lim ≤ 1000000) (hdb : 0 ≤ db ∧ db ≤ 2000000) (hu : 0 ≤ un ∧ un ≤ 345686400000) (hs : serFault l = 0) : actSp 1 lim db 0 0 1 l un = (actW 1 lim db 0 0 un l, 0) := by
  have e : almF 1 lim db 0 0 1 = 0 := by
    unfold almF
    rw [if_neg (by omega), if_neg (by omega), if_neg (by omega)]
  have e2 : unF 1 lim db 0 0 1 l un = 0 := by
    unfold unF
    rw [e, hs, if_neg (fun h => by omega)]; rfl
  unfold actSp
  rw [if_neg (by omega)]
end Go.Proofs.Ytmbpfhpdicjpcaa


/-
  The time above a limit is the frames of a trigger, where no sample is Bad (plain law).
-/
import Derived.Test.YtmbpfhpdicjpcaaFrl
import Derived.Test.YtmbpfhpdicjpcaaAbv
namespace Go.Proofs.Ytmbpfhpdicjpcaa
open Go Go.Ai
set_option linter.unusedSimpArgs false
set_option linter.unusedVariables false
set_option maxHeartbeats 4000000
theorem lenS_set (a : List (Int × Int)) (b : Int × Int) (t : Int) : lenS (setTo (a ++ [b]) t) = lenS (a ++ [b]) + (t - b.2) := by
  rw [snoc_set, lenS_app, lenS_app]; simp only [lenS]; omega
theorem snoc_ex {α : Type} {out : List α} (h : 1 ≤ out.length) : ∃ a b, out = a ++ [b] := by
  rcases List.eq_nil_or_concat out with rfl | ⟨a, b, rfl⟩
  · simp at h
  · exact ⟨a, b, List.concat_eq_append⟩
theorem ab_lenS (L : Int) : ∀ (m : List Pc) (x : List (Int × Int) × Int), lenS x.1 = x.2 → lenS (m.foldl (abStep L) x).1 = (m.foldl (abStep L) x).2
  | [], x, h => h
  | p :: m, x, h => by
    rw [List.foldl_cons]
    refine ab_lenS L m _ ?_
    unfold abStep
    split
    · exact h
    · simp only []
      split
      · rename_i h2
        obtain ⟨a, b, hb⟩ := snoc_ex h2.1
        have h3 := h2.2
        rw [hb, snoc_last] at h3
        rw [hb] at h ⊢
        rw [lenS_set]; omega
      · rw [lenS_app]; simp only [lenS]; omega
/-- Where the next piece begins. -/
def nxS (un : Int) : List Smp → Int
  | [] => un
  | s :: _ => min un s.a
theorem nxS_n (un : Int) : nxS un [] = un := rfl
theorem nxS_c (un : Int) (s : Smp) (r : List Smp) : nxS un (s :: r) = min un s.a := rfl
theorem abS_le {L : Int} {x : List (Int × Int) × Int} {p : Pc} (h : p.v ≤ L) : abStep L x p = x := by unfold abStep; rw [if_pos h]
theorem abS_app {L : Int} {out : List (Int × Int)} {n : Int} {p : Pc} (h : ¬p.v ≤ L) (h2 : ¬(1 ≤ out.length ∧ (out.getD ((out.length : Int) - 1).toNat default).2 = p.f)) : abStep L (out, n) p = (out ++ [(p.f, p.t)], n + (p.t - p.f)) := by unfold abStep; rw [if_neg h]; simp only []; rw [if_neg h2]
theorem abS_set {L : Int} {out : List (Int × Int)} {n f e : Int} {p : Pc} (h : ¬p.v ≤ L) (h2 : e = p.f) : abStep L (out ++ [(f, e)], n) p = (out ++ [(f, p.t)], n + (p.t - p.f)) := by unfold abStep; rw [if_neg h]; simp only []; rw [snoc_last, snoc_set, if_pos ⟨by simp, h2⟩]
theorem pcs_nx (un : Int) (s : Smp) (r : List Smp) (h : 0 ≤ s.a) : pcsGo 0 un (s :: r) = (if s.a < nxS un r then [⟨s.a, nxS un r, s.v, s.q⟩] else []) ++ pcsGo 0 un r := by
  have e : max 0 s.a = s.a := by omega
  cases r with
  | nil => rw [pcsGo, pcsGo, e, List.append_nil]; rfl
  | cons s' r => rw [pcsGo, e]; rfl
theorem ab_raw (L un : Int) : ∀ (l : List Smp) (lo : Int), 0 ≤ lo → Asc lo l → (∀ s ∈ l, ¬s.q = 2) →
    (∀ (out : List (Int × Int)) (n : Int), (1 ≤ out.length → (out.getD ((out.length : Int) - 1).toNat default).2 < lo) → ((pcsGo 0 un l).foldl (abStep L) (out, n)).1 = out ++ rawR (L + 1) (L + 1) un none l) ∧
    (∀ (out : List (Int × Int)) (n f : Int), ((pcsGo 0 un l).foldl (abStep L) (out ++ [(f, nxS un l)], n)).1 = out ++ rawR (L + 1) (L + 1) un (some f) l)
  | [], lo, _, _, _ => ⟨fun out n _ => by simp [pcsGo, rawR], fun out n f => by simp [pcsGo, rawR, nxS]⟩
  | s :: r, lo, h0, h, hb => by
    obtain ⟨h1, h2, h3⟩ := h
    have hs := hb s (by simp)
    obtain ⟨i1, i2⟩ := ab_raw L un r (s.a + 1) (by omega) h3 (fun x hx => hb x (by simp [hx]))
    have hn : s.a < un → s.a < nxS un r := by
      intro hu
      cases r with
      | nil => exact hu
      | cons s' r => have := h3.1; rw [nxS_c]; omega
    have hn2 : ¬s.a < un → ¬s.a < nxS un r ∧ nxS un r = un ∧ nxS un (s :: r) = un := by
      intro hu
      cases r with
      | nil => rw [nxS_n, nxS_c]; omega
      | cons s' r => have := h3.1; rw [nxS_c, nxS_c]; omega
    refine ⟨fun out n hlt => ?_, fun out n f => ?_⟩
    · rw [pcs_nx un s r (by omega), rawR]
      by_cases c1 : s.a < un
      · rw [if_pos (hn c1), if_neg (show ¬(s.a ≥ un ∨ s.q = 2) by omega), List.foldl_append, List.foldl_cons, List.foldl_nil]
        by_cases c2 : s.v ≤ L
        · rw [abS_le c2, if_neg (show ¬s.v ≥ L + 1 by omega)]
          exact i1 out n (fun hl => by have := hlt hl; omega)
        · rw [abS_app c2 (fun hh => by have := hlt hh.1; have := hh.2; simp only at this; omega), if_pos (show s.v ≥ L + 1 by omega)]
          exact i2 out _ s.a
      · rw [if_neg (hn2 c1).1, if_pos (.inl (by omega)), List.nil_append]
        exact i1 out n (fun hl => by have := hlt hl; omega)
    · rw [pcs_nx un s r (by omega), rawR]
      by_cases c1 : s.a < un
      · have e : nxS un (s :: r) = s.a := by rw [nxS_c]; omega
        rw [if_pos (hn c1), if_neg (show ¬(s.a ≥ un ∨ s.q = 2) by omega), List.foldl_append, List.foldl_cons, List.foldl_nil, e]
        by_cases c2 : s.v ≤ L
        · rw [abS_le c2, if_pos (show s.v < L + 1 by omega)]
          have := i1 (out ++ [(f, s.a)]) n (fun _ => by rw [snoc_last]; simp only; omega)
          rw [this, List.append_assoc]; rfl
        · rw [abS_set (p := ⟨s.a, nxS un r, s.v, s.q⟩) c2 rfl, if_neg (show ¬s.v < L + 1 by omega)]
          exact i2 out _ f
      · obtain ⟨e1, e2, e3⟩ := hn2 c1
        rw [if_neg e1, if_pos (.inl (by omega)), List.nil_append, e3]
        have := i2 out n f
        rw [e2] at this
        exact this
/-- The windows above a limit, from the beginning on, where nothing is Bad. -/
theorem abW_raw {L un : Int} {l : List Smp} (h : Asc 0 l) (hb : ∀ s ∈ l, ¬s.q = 2) : (abW L 0 un l).1 = rawW (L + 1) (L + 1) un l ∧ (abW L 0 un l).2 = lenS (rawW (L + 1) (L + 1) un l) := by
  have e : vals 0 un l = pcsGo 0 un l := by
    unfold vals
    rw [List.filter_eq_self]
    have hq : ∀ (m : List Smp), (∀ s ∈ m, ¬s.q = 2) → ∀ p ∈ pcsGo 0 un m, ¬p.q = 2 := by
      intro m
      induction m with
      | nil => intro _ p hp; cases hp
      | cons s r ih =>
        intro hm p hp
        cases r with
        | nil =>
          rw [pcsGo] at hp
          split at hp
          · simp only [List.mem_singleton] at hp; subst hp; exact hm s (by simp)
          · cases hp
        | cons s' r =>
          rw [pcsGo, List.mem_append] at hp
          rcases hp with hp | hp
          · split at hp
            · simp only [List.mem_singleton] at hp; subst hp; exact hm s (by simp)
            · cases hp
          · exact ih (fun x hx => hm x (by simp [hx])) p hp
    intro p hp
    have := hq l hb p hp
    simp [this]
  have h1 := (ab_raw L un l 0 (by omega) h hb).1 [] 0 (by simp)
  have h2 := ab_lenS L (pcsGo 0 un l) ([], 0) rfl
  unfold abW
  rw [e, rawW_R]
  simp only [List.nil_append] at h1
  rw [h1] at h2 ⊢
  exact ⟨rfl, h2.symm⟩
end Go.Proofs.Ytmbpfhpdicjpcaa

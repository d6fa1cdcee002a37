
/-
  Integrals of adjacent windows add up; averages and medians lie between the extremes: plain laws about pieces.
-/
import Derived.Test.YtggbcgldnjmobaaMed
namespace Go.Proofs.Ytggbcgldnjmobaa
open Go Go.Ai
set_option linter.unusedSimpArgs false
set_option linter.unusedVariables false
set_option maxHeartbeats 4000000
/-- How long a window and the time of a sample are both. -/
def wd (f t a b : Int) : Int := if max f a < min t b then min t b - max f a else 0
def wl (f t a : Int) : Int := if max f a < t then t - max f a else 0
theorem wd_add {f m t a b : Int} (h1 : f ≤ m) (h2 : m ≤ t) (h3 : a ≤ b) : wd f m a b + wd m t a b = wd f t a b := by
  unfold wd; split <;> split <;> split <;> omega
theorem wl_add {f m t a : Int} (h1 : f ≤ m) (h2 : m ≤ t) : wl f m a + wl m t a = wl f t a := by
  unfold wl; split <;> split <;> split <;> omega
def vT (f t : Int) : List Smp → Int
  | [] => 0
  | [s] => if s.q = 2 then 0 else wl f t s.a
  | s :: s' :: r => (if s.q = 2 then 0 else wd f t s.a s'.a) + vT f t (s' :: r)
def vS (f t : Int) : List Smp → Int
  | [] => 0
  | [s] => if s.q = 2 then 0 else s.v * wl f t s.a
  | s :: s' :: r => (if s.q = 2 then 0 else s.v * wd f t s.a s'.a) + vS f t (s' :: r)
theorem int_app : ∀ (m n : List Pc), intT (m ++ n) = intT m + intT n ∧ intS (m ++ n) = intS m + intS n
  | [], n => by simp only [List.nil_append, intT, intS]; omega
  | p :: r, n => by
    obtain ⟨h1, h2⟩ := int_app r n
    rw [List.cons_append, intT, intT, intS, intS, h1, h2]; omega
theorem vals_T (f t : Int) : ∀ l : List Smp, intT (vals f t l) = vT f t l ∧ intS (vals f t l) = vS f t l
  | [] => ⟨rfl, rfl⟩
  | [s] => by
    unfold vals
    rw [pcsGo, vT, vS]
    unfold wl
    by_cases h : max f s.a < t
    · rw [if_pos h]
      by_cases hq : s.q = 2
      · simp [hq, intT, intS]
      · simp [hq, intT, intS, h]
    · rw [if_neg h]
      simp [intT, intS, h]
  | s :: s' :: r => by
    obtain ⟨h1, h2⟩ := vals_T f t (s' :: r)
    unfold vals at h1 h2 ⊢
    rw [pcsGo, List.filter_append, (int_app _ _).1, (int_app _ _).2, h1, h2, vT, vS]
    unfold wd
    by_cases h : max f s.a < min t s'.a
    · rw [if_pos h]
      by_cases hq : s.q = 2
      · simp [hq, intT, intS]
      · simp [hq, intT, intS, h]
    · rw [if_neg h]
      simp [intT, intS, h]
theorem v_add {f m t : Int} (h1 : f ≤ m) (h2 : m ≤ t) : ∀ (l : List Smp) (o : Option Smp), serGo o l = 0 → vT f m l + vT m t l = vT f t l ∧ vS f m l + vS m t l = vS f t l
  | [], _, _ => ⟨rfl, rfl⟩
  | [s], _, _ => by
    have h3 := wl_add (a := s.a) h1 h2
    simp only [vT, vS]
    split
    · omega
    · rw [← Int.mul_add, h3]; exact ⟨rfl, rfl⟩
  | s :: s' :: r, o, hs => by
    obtain ⟨_, _, h4⟩ := serGo_c.1 hs
    have h5 := (serGo_c.1 h4).2.1 s rfl
    obtain ⟨h6, h7⟩ := v_add h1 h2 (s' :: r) (some s) h4
    have h3 := wd_add (a := s.a) (b := s'.a) h1 h2 (by omega)
    rw [vT, vT, vT, vS, vS, vS]
    by_cases hq : s.q = 2
    · simp only [hq, if_true]; omega
    · simp only [hq, if_false]
      rw [← h3, Int.mul_add]; omega
/-- The integrals of adjacent windows add up. -/
theorem vals_add {l : List Smp} (hs : serFault l = 0) {f m t : Int} (h1 : f ≤ m) (h2 : m ≤ t) : intT (vals f m l) + intT (vals m t l) = intT (vals f t l) ∧ intS (vals f m l) + intS (vals m t l) = intS (vals f t l) := by
  rw [(vals_T f m l).1, (vals_T f m l).2, (vals_T m t l).1, (vals_T m t l).2, (vals_T f t l).1, (vals_T f t l).2]
  exact v_add h1 h2 l none (serFault_ok hs).2
/-- All that is not Bad is Uncertain or better. -/
theorem gdT_vals : ∀ (m : List Pc), (∀ p ∈ m, p.q ≤ 2) → gdT 1 m = intT (m.filter fun x => !decide (x.q = 2))
  | [], _ => rfl
  | p :: r, h => by
    have h1 := gdT_vals r (fun q hq => h q (List.mem_cons_of_mem _ hq))
    have h2 := h p (List.mem_cons_self ..)
    rw [gdT, h1, List.filter_cons]
    by_cases hq : p.q = 2
    · simp [hq]
    · simp [hq, intT, show p.q ≤ 1 by omega]
theorem gdT_1 {l : List Smp} (hg : Good l) (f t : Int) : gdT 1 (pcsGo f t l) = intT (vals f t l) :=
  gdT_vals _ (fun p hp => (pcs_ok f t l hg.all p hp).2.2.2.2.2)
theorem mn_le : ∀ (r : List Pc) (b : Int), mnG b r ≤ b ∧ ∀ p ∈ r, mnG b r ≤ p.v
  | [], b => ⟨Int.le_refl _, fun p hp => by cases hp⟩
  | x :: r, b => by
    obtain ⟨h1, h2⟩ := mn_le r (min b x.v)
    have e : mnG b (x :: r) = mnG (min b x.v) r := rfl
    rw [e]
    refine ⟨by omega, fun p hp => ?_⟩
    rcases List.mem_cons.1 hp with rfl | hp
    · omega
    · exact h2 p hp
theorem mx_le : ∀ (r : List Pc) (b : Int), b ≤ mxG b r ∧ ∀ p ∈ r, p.v ≤ mxG b r
  | [], b => ⟨Int.le_refl _, fun p hp => by cases hp⟩
  | x :: r, b => by
    obtain ⟨h1, h2⟩ := mx_le r (max b x.v)
    have e : mxG b (x :: r) = mxG (max b x.v) r := rfl
    rw [e]
    refine ⟨by omega, fun p hp => ?_⟩
    rcases List.mem_cons.1 hp with rfl | hp
    · omega
    · exact h2 p hp
/-- The extremes bound all values. -/
theorem ex_bd (p : Pc) (r : List Pc) : ∀ q ∈ p :: r, (minP p r).v ≤ q.v ∧ q.v ≤ (maxP p r).v := fun q hq => by
  rw [minP_v, maxP_v]
  rcases List.mem_cons.1 hq with rfl | hq
  · exact ⟨(mn_le r q.v).1, (mx_le r q.v).1⟩
  · exact ⟨(mn_le r p.v).2 q hq, (mx_le r p.v).2 q hq⟩
theorem sum_bd {lo hi : Int} : ∀ {m : List Pc}, (∀ p ∈ m, rtPc p) → (∀ p ∈ m, lo ≤ p.v ∧ p.v ≤ hi) → lo * intT m ≤ intS m ∧ intS m ≤ hi * intT m
  | [], _, _ => by simp [intT, intS]
  | p :: r, h, hb => by
    obtain ⟨h1, h2⟩ := sum_bd (m := r) (fun q hq => h q (List.mem_cons_of_mem _ hq)) (fun q hq => hb q (List.mem_cons_of_mem _ hq))
    have h3 := h p (List.mem_cons_self ..)
    obtain ⟨h4, h5⟩ := hb p (List.mem_cons_self ..)
    unfold rtPc at h3
    have h6 := Int.mul_le_mul_of_nonneg_right h4 (show 0 ≤ p.t - p.f by omega)
    have h7 := Int.mul_le_mul_of_nonneg_right h5 (show 0 ≤ p.t - p.f by omega)
    rw [intT, intS, Int.mul_add, Int.mul_add]; omega
/-- The average is between the extremes. -/
theorem avg_bd {S T lo hi : Int} (hT : 1 ≤ T) (h1 : lo * T ≤ S) (h2 : S ≤ hi * T) : 0 < lowD S T ∧ lo * lowD S T ≤ lowN S T ∧ lowN S T ≤ hi * lowD S T := by
  obtain ⟨e1, e2, g3, g4⟩ := low_eq S T hT
  generalize lowG S T = g at *
  generalize lowN S T = n at *
  generalize lowD S T = d at *
  subst e1; subst e2
  refine ⟨by omega, ?_, ?_⟩
  · refine Int.le_of_mul_le_mul_left (a := g) ?_ (by omega)
    rw [← Int.mul_assoc, Int.mul_comm g lo, Int.mul_assoc]; exact h1
  · refine Int.le_of_mul_le_mul_left (a := g) ?_ (by omega)
    rw [← Int.mul_assoc g hi d, Int.mul_comm g hi, Int.mul_assoc]; exact h2
end Go.Proofs.Ytggbcgldnjmobaa

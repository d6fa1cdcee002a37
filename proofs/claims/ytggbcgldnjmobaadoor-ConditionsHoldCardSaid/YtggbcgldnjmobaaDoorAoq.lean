
/-
  What the reference asks is what is told: active windows, and the least deadband. Plain Lean.
-/
import Derived.Test.YtggbcgldnjmobaaDoorAop
import Derived.Test.YtggbcgldnjmobaaDoorDbp
import Derived.Test.YtggbcgldnjmobaaDoorSrj
namespace Go.Proofs.YtggbcgldnjmobaaDoor
open Go Go.Ai
set_option linter.unusedSimpArgs false
set_option linter.unusedVariables false
set_option maxHeartbeats 4000000
theorem srtI_asc (l : List Int) : (srtI l).Pairwise (· ≤ ·) := by
  have h := List.pairwise_mergeSort (le := fun x y : Int => decide (x ≤ y)) (fun a b c h1 h2 => decide_eq_true (Int.le_trans (of_decide_eq_true h1) (of_decide_eq_true h2))) (fun a b => by
    rcases Int.le_total a b with h | h
    · simp [h]
    · simp [h]) l
  exact h.imp fun h => of_decide_eq_true h
theorem srtI_mem {l : List Int} {x : Int} : x ∈ srtI l ↔ x ∈ l := List.mem_mergeSort
theorem cpt_strict {l : List Int} (h : l.Pairwise (· ≤ ·)) : (Lib.compact l).Pairwise (· < ·) := by
  unfold Lib.compact Lib.compactUpTo
  refine List.pairwise_map.2 ?_
  have h1 : ((List.range l.length).filter (Lib.keeps l.toArray)).Pairwise fun i j => i < j ∧ j < l.length ∧ Lib.keeps l.toArray j = true := by
    refine List.pairwise_filter.2 ?_
    refine List.pairwise_iff_getElem.2 fun i j hi hj hij _ hk => ?_
    simp only [List.getElem_range, List.length_range] at hi hj hk ⊢
    exact ⟨hij, hj, hk⟩
  refine h1.imp fun {i j} hij => ?_
  obtain ⟨h2, h3, h4⟩ := hij
  rw [getE_arr l i (by omega), getE_arr l j h3]
  have h5 := List.pairwise_iff_getElem.1 h
  have h6 : l[j - 1] ≤ l[j] := h5 (j - 1) j (by omega) h3 (by omega)
  have h7 : l[i] ≤ l[j - 1] := by
    by_cases e : i = j - 1
    · subst e; exact Int.le_refl _
    · exact h5 i (j - 1) (by omega) (by omega) (by omega)
  have h8 : l[j] ≠ l[j - 1] := by
    unfold Lib.keeps at h4
    have := of_decide_eq_true h4
    rw [getE_arr l j h3, getE_arr l (j - 1) (by omega)] at this
    rcases this with h | h
    · omega
    · exact h
  omega
/-- The moments, in order and once each. -/
def momC (on off : Int) (l : List Smp) : List Int := Lib.compact (srtI (momN on off l l.length))
theorem refW_mom {kd lim db on off un : Int} {l : List Smp} (hs : ∀ x ∈ l, 0 ≤ x.a ∧ x.a ≤ 345686400000) (hp : l.Pairwise (fun x y => x.a < y.a)) (hdb : 0 ≤ db) (hon : 0 ≤ on) (hoff : 0 ≤ off) (hun : un ≤ 345686400000) : refW kd lim db on off un l (momC on off l) = actW kd lim db on off un l :=
  refW_is hs hp hdb hon hoff hun (fun t => by unfold momC; rw [cpt_mem, srtI_mem]) (cpt_strict (srtI_asc _))
/-- All deadbands at which a value stops to clear. -/
def farN (lim : Int) (l : List Smp) : Nat → List Int
  | 0 => [0]
  | n + 1 => farN lim l n ++ [max ((l.getD n default).v - lim) (lim - (l.getD n default).v) + 1]
theorem farN_len (lim : Int) (l : List Smp) : ∀ n, (farN lim l n).length = n + 1
  | 0 => rfl
  | n + 1 => by rw [farN, List.length_append, farN_len lim l n]; rfl
theorem farN_0 (lim : Int) (l : List Smp) : ∀ n, 0 ∈ farN lim l n
  | 0 => by simp [farN]
  | n + 1 => by rw [farN]; exact List.mem_append_left _ (farN_0 lim l n)
theorem farN_mem (lim : Int) (l : List Smp) : ∀ n i, i < n → max ((l.getD i default).v - lim) (lim - (l.getD i default).v) + 1 ∈ farN lim l n
  | 0, i, h => by omega
  | n + 1, i, h => by
    rw [farN]
    by_cases e : i = n
    · subst e; simp
    · exact List.mem_append_left _ (farN_mem lim l n i (by omega))
theorem farN_nonneg (lim : Int) (l : List Smp) : ∀ n, ∀ d ∈ farN lim l n, 0 ≤ d
  | 0, d, h => by simp [farN] at h; omega
  | n + 1, d, h => by
    rw [farN, List.mem_append] at h
    rcases h with h | h
    · exact farN_nonneg lim l n d h
    · simp only [List.mem_singleton] at h; omega
theorem trN_far {kd lim : Int} {l : List Smp} (hk : kd = 1 ∨ kd = 2) : ∀ n, ∀ d ∈ trN kd lim l n, d ∈ farN lim l n
  | 0, d, h => h
  | n + 1, d, h => by
    rw [trN, List.mem_append] at h
    rw [farN, List.mem_append]
    rcases h with h | h
    · exact .inl (trN_far hk n d h)
    · right
      split at h
      · rename_i hok
        simp only [List.mem_singleton] at h ⊢
        have h2 := of_decide_eq_true hok
        subst h
        unfold dOf at h2 ⊢
        rcases hk with rfl | rfl
        · rw [if_neg (by omega)] at h2 ⊢; omega
        · rw [if_pos rfl] at h2 ⊢; omega
      · simp at h
/-- The reference's: the first that is enough. -/
def rdbF (kd lim on off un many : Int) (l : List Smp) (D : List Int) : Option Int := D.find? fun d => decide (d ≤ 2000000) && decide (((actW kd lim d on off un l).length : Int) ≤ many)
theorem rdbF_is {kd lim on off un many : Int} {l : List Smp} (hk : kd = 1 ∨ kd = 2) : rdbF kd lim on off un many l (srtI (farN lim l l.length)) = dbF kd lim on off un many l (Lib.compact (srtI (trN kd lim l l.length))) := by
  unfold rdbF dbF
  refine find_more (p := fun d => decide (((actW kd lim d on off un l).length : Int) ≤ many)) (cpt_asc (srtI_asc _)) (srtI_asc _) (fun x hx => ?_) (fun e he he2 hp => ?_)
  · rw [cpt_mem, srtI_mem] at hx
    exact ⟨srtI_mem.2 (trN_far hk _ x hx), (trN_rng kd lim l _ x hx).2⟩
  · rw [srtI_mem] at he
    have he0 := farN_nonneg lim l _ e he
    obtain ⟨m, m1, m2, m3⟩ := max_below (d := e + 1) (trN kd lim l l.length) ⟨0, trN_0 kd lim l _, by omega⟩
    refine ⟨m, by rw [cpt_mem, srtI_mem]; exact m1, by omega, ?_⟩
    have hmr := trN_rng kd lim l l.length m m1
    have ew : actW kd lim m on off un l = actW kd lim e on off un l := actW_congr fun s hs => hld_d hk s fun hq => by
      obtain ⟨i, hi, rfl⟩ := List.mem_iff_getElem.1 hs
      have ei : l[i] = l.getD i default := by simp [List.getD_eq_getElem?_getD, hi]
      constructor
      · intro h1
        apply Classical.byContradiction
        intro h2
        have hok : okD kd lim (l.getD i default) = true := by
          rw [← ei]
          exact decide_eq_true ⟨hq, by omega, by omega⟩
        have hmem := trN_mem kd lim l l.length i hi hok
        rw [← ei] at hmem
        have := m3 _ hmem (by omega)
        omega
      · intro h1; omega
    rw [ew]; exact hp
end Go.Proofs.YtggbcgldnjmobaaDoor


/-
  The deadbands that are tried, in order. Plain Lean.
-/
import Derived.Test.YtggbcgldnjmobaaDoorActb
import Derived.Lib.SlicesCompact
namespace Go.Proofs.YtggbcgldnjmobaaDoor
open Go Go.Ai
set_option linter.unusedSimpArgs false
set_option linter.unusedVariables false
set_option maxHeartbeats 4000000
/-- With so much it is not cleared by this sample. -/
def dOf (kd lim : Int) (s : Smp) : Int := if kd = 2 then s.v - lim + 1 else lim - s.v + 1
def okD (kd lim : Int) (s : Smp) : Bool := decide (s.q ≠ 2 ∧ 1 ≤ dOf kd lim s ∧ dOf kd lim s ≤ 2000000)
def trN (kd lim : Int) (l : List Smp) : Nat → List Int
  | 0 => [0]
  | n + 1 => trN kd lim l n ++ (if okD kd lim (l.getD n default) = true then [dOf kd lim (l.getD n default)] else [])
theorem trN_len (kd lim : Int) (l : List Smp) : ∀ n, (trN kd lim l n).length ≤ n + 1 ∧ trN kd lim l n ≠ []
  | 0 => ⟨Nat.le_refl _, by simp [trN]⟩
  | n + 1 => by
    obtain ⟨h1, h2⟩ := trN_len kd lim l n
    rw [trN]
    exact ⟨by rw [List.length_append]; split <;> simp <;> omega, by simp [h2]⟩
theorem trN_rng (kd lim : Int) (l : List Smp) : ∀ n, ∀ d ∈ trN kd lim l n, 0 ≤ d ∧ d ≤ 2000000
  | 0, d, h => by simp [trN] at h; omega
  | n + 1, d, h => by
    rw [trN, List.mem_append] at h
    rcases h with h | h
    · exact trN_rng kd lim l n d h
    · split at h
      · rename_i hk
        simp only [List.mem_singleton] at h
        have := of_decide_eq_true hk
        omega
      · simp at h
theorem trN_0 (kd lim : Int) (l : List Smp) : ∀ n, 0 ∈ trN kd lim l n
  | 0 => by simp [trN]
  | n + 1 => by rw [trN]; exact List.mem_append_left _ (trN_0 kd lim l n)
theorem trN_mem (kd lim : Int) (l : List Smp) : ∀ n i, i < n → okD kd lim (l.getD i default) = true → dOf kd lim (l.getD i default) ∈ trN kd lim l n
  | 0, i, h, _ => by omega
  | n + 1, i, h, hk => by
    rw [trN]
    by_cases e : i = n
    · subst e; rw [if_pos hk]; simp
    · exact List.mem_append_left _ (trN_mem kd lim l n i (by omega) hk)
/-! ### what is left of equal neighbours -/
theorem getE_arr (l : List Int) (j : Nat) (h : j < l.length) : l.toArray[j]! = l[j] := by
  rw [getElem!_pos _ j (by simpa using h)]; simp
theorem cpt_mem {l : List Int} {x : Int} : x ∈ Lib.compact l ↔ x ∈ l := by
  unfold Lib.compact Lib.compactUpTo
  simp only [List.mem_map, List.mem_filter, List.mem_range]
  constructor
  · rintro ⟨j, ⟨hj, _⟩, rfl⟩
    rw [getE_arr l j hj]; exact List.getElem_mem _
  · intro h
    have hex : ∃ j : Nat, ∃ h : j < l.length, l[j] = x := List.mem_iff_getElem.1 h
    have key : ∀ n : Nat, (∃ j : Nat, j < n ∧ ∃ h : j < l.length, l[j] = x) → ∃ j : Nat, (∃ h : j < l.length, l[j] = x) ∧ ∀ i, i < j → ∀ h : i < l.length, l[i] ≠ x := by
      intro n
      induction n with
      | zero => rintro ⟨j, hj, _⟩; omega
      | succ n ih =>
        rintro ⟨j, hj, hx⟩
        by_cases h2 : ∃ j : Nat, j < n ∧ ∃ h : j < l.length, l[j] = x
        · exact ih h2
        · obtain rfl : j = n := by
            rcases Nat.lt_or_ge j n with c | c
            · exact absurd ⟨j, c, hx⟩ h2
            · omega
          exact ⟨j, hx, fun i hi h3 e => h2 ⟨i, hi, h3, e⟩⟩
    obtain ⟨j0, h0⟩ := hex
    obtain ⟨j, ⟨hj, hjx⟩, hmin⟩ := key (j0 + 1) ⟨j0, by omega, h0⟩
    refine ⟨j, ⟨hj, ?_⟩, by rw [getE_arr l j hj]; exact hjx⟩
    unfold Lib.keeps
    by_cases e : j = 0
    · simp [e]
    · have h1 := getE_arr l j hj
      have h2 := getE_arr l (j - 1) (by omega)
      have h3 := hmin (j - 1) (by omega) (by omega)
      rw [h1, h2, hjx]
      simp only [bne_iff_ne, ne_eq, Bool.or_eq_true, decide_eq_true_eq]
      exact .inr (fun e => h3 e.symm)
theorem cpt_asc {l : List Int} (h : l.Pairwise (· ≤ ·)) : (Lib.compact l).Pairwise (· ≤ ·) := by
  unfold Lib.compact Lib.compactUpTo
  refine List.pairwise_map.2 ?_
  have h1 : ((List.range l.length).filter (Lib.keeps l.toArray)).Pairwise fun i j => i < j ∧ j < l.length := by
    refine List.Pairwise.filter _ ?_
    refine List.pairwise_iff_getElem.2 fun i j hi hj hij => ?_
    simp only [List.getElem_range, List.length_range] at hi hj ⊢
    exact ⟨hij, hj⟩
  refine h1.imp fun {i j} hij => ?_
  rw [getE_arr l i (by omega), getE_arr l j hij.2]
  exact List.pairwise_iff_getElem.1 h i j (by omega) hij.2 hij.1
/-! ### windows by the deadband -/
theorem actW_congr {kd lim db db' on off un : Int} {l : List Smp} (h : ∀ s ∈ l, hldSp kd lim db s = hldSp kd lim db' s) : actW kd lim db on off un l = actW kd lim db' on off un l := by
  have go : ∀ (l : List Smp) (x : ActX), (∀ s ∈ l, hldSp kd lim db s = hldSp kd lim db' s) → actGo kd lim db on off un l x = actGo kd lim db' on off un l x := by
    intro l
    induction l with
    | nil => intro x _; rfl
    | cons s r ih =>
      intro x h
      cases r with
      | nil => rw [actGo, actGo, h s (by simp)]
      | cons s' r => rw [actGo, actGo, h s (by simp)]; exact ih _ fun y hy => h y (by simp [hy])
  unfold actW
  rw [go l _ h]
/-- A deadband does not clear where it is not less than this. -/
theorem hld_d {kd lim db db' : Int} (hk : kd = 1 ∨ kd = 2) (s : Smp) (h : s.q ≠ 2 → (db < dOf kd lim s ↔ db' < dOf kd lim s)) : hldSp kd lim db s = hldSp kd lim db' s := by
  unfold hldSp
  unfold dOf at h
  rcases hk with rfl | rfl
  · rw [if_neg (by omega)] at h
    rw [if_pos rfl, if_pos rfl]
    by_cases hq : s.q = 2
    · simp [hq]
    · have := h hq
      have e : (¬s.q = 2 ∧ s.v ≤ lim - db) ↔ (¬s.q = 2 ∧ s.v ≤ lim - db') := by omega
      simp only [e]
  · rw [if_pos rfl] at h
    rw [if_neg (by omega), if_pos rfl, if_neg (by omega), if_pos rfl]
    by_cases hq : s.q = 2
    · simp [hq]
    · have := h hq
      have e : (¬s.q = 2 ∧ s.v ≥ lim + db) ↔ (¬s.q = 2 ∧ s.v ≥ lim + db') := by omega
      simp only [e]
theorem max_below {d : Int} : ∀ (T : List Int), (∃ a ∈ T, a < d) → ∃ m ∈ T, m < d ∧ ∀ x ∈ T, x < d → x ≤ m
  | [], h => by obtain ⟨a, ha, _⟩ := h; simp at ha
  | y :: r, h => by
    by_cases h2 : ∃ a ∈ r, a < d
    · obtain ⟨m, m1, m2, m3⟩ := max_below r h2
      by_cases c : y < d ∧ m < y
      · refine ⟨y, by simp, c.1, fun x hx hxd => ?_⟩
        rcases List.mem_cons.1 hx with rfl | hx
        · exact Int.le_refl _
        · have := m3 x hx hxd; omega
      · refine ⟨m, by simp [m1], m2, fun x hx hxd => ?_⟩
        rcases List.mem_cons.1 hx with rfl | hx
        · omega
        · exact m3 x hx hxd
    · obtain ⟨a, ha, had⟩ := h
      rcases List.mem_cons.1 ha with rfl | ha
      · refine ⟨a, by simp, had, fun x hx hxd => ?_⟩
        rcases List.mem_cons.1 hx with rfl | hx
        · exact Int.le_refl _
        · exact absurd ⟨x, hx, hxd⟩ h2
      · exact absurd ⟨a, ha, had⟩ h2
/-- The first of them that is enough. -/
def dbF (kd lim on off un many : Int) (l : List Smp) (C : List Int) : Option Int := C.find? fun d => decide (((actW kd lim d on off un l).length : Int) ≤ many)
def dbR : Option Int → Int × Bool
  | some d => (d, true)
  | none => (0, false)
/-- One less is not enough. -/
theorem less_not {kd lim on off un many : Int} {l : List Smp} (hk : kd = 1 ∨ kd = 2) (hlim : -1000000 ≤ lim ∧ lim ≤ 999999) (hg : Good l) (hlv : ∀ s ∈ l, -1000000 ≤ s.v ∧ s.v ≤ 1000000 ∧ (kd = 1 → lim - s.v + 1 ≤ 2000000) ∧ (kd = 2 → s.v - lim + 1 ≤ 2000000)) {C : List Int} (hC : C.Pairwise (· ≤ ·)) (hm : ∀ x, x ∈ C ↔ x ∈ trN kd lim l l.length) {d : Int} (h : dbF kd lim on off un many l C = some d) :
    ((actW kd lim d on off un l).length : Int) ≤ many ∧ (0 ≤ d ∧ d ≤ 2000000) ∧ (d ≠ 0 → many < ((actW kd lim (d - 1) on off un l).length : Int)) := by
  unfold dbF at h
  obtain ⟨hp, pre, bs, hsp, has⟩ := List.find?_eq_some_iff_append.1 h
  have hp := of_decide_eq_true hp
  have hdm : d ∈ trN kd lim l l.length := (hm d).1 (by rw [hsp]; simp)
  have hdr := trN_rng kd lim l l.length d hdm
  refine ⟨hp, hdr, fun hd0 => ?_⟩
  have hlt : ∀ x ∈ trN kd lim l l.length, x < d → many < ((actW kd lim x on off un l).length : Int) := fun x hx hxd => by
    have hxc := (hm x).2 hx
    rw [hsp] at hxc hC
    rcases List.mem_append.1 hxc with hx2 | hx2
    · have := has x hx2
      simp only [Bool.not_eq_true', decide_eq_false_iff_not] at this
      omega
    · exfalso
      rcases List.mem_cons.1 hx2 with rfl | hx3
      · omega
      · have := (List.pairwise_cons.1 (List.pairwise_append.1 hC).2.1).1 x hx3
        omega
  obtain ⟨m, m1, m2, m3⟩ := max_below (d := d) (trN kd lim l l.length) ⟨0, trN_0 kd lim l _, by omega⟩
  have hmr := trN_rng kd lim l l.length m m1
  have e : actW kd lim (d - 1) on off un l = actW kd lim m on off un l := actW_congr fun s hs => hld_d hk s fun hq => by
    obtain ⟨i, hi, rfl⟩ := List.mem_iff_getElem.1 hs
    have ei : l[i] = l.getD i default := by simp [List.getD_eq_getElem?_getD, hi]
    have hv := hlv l[i] hs
    constructor
    · intro h1; omega
    · intro h1
      have hok : okD kd lim (l.getD i default) = true := by
        rw [← ei]
        refine decide_eq_true ⟨hq, by omega, ?_⟩
        unfold dOf
        rcases hk with rfl | rfl
        · rw [if_neg (by omega)]; exact hv.2.2.1 rfl
        · rw [if_pos rfl]; exact hv.2.2.2 rfl
      have hmem := trN_mem kd lim l l.length i hi hok
      rw [← ei] at hmem
      have := m3 _ hmem
      omega
  rw [e]
  exact hlt m m1 m2
end Go.Proofs.YtggbcgldnjmobaaDoor

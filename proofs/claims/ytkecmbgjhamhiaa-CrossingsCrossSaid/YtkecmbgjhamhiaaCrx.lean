/-
  At a crossing the value is the limit, and crossings come one after the other.
-/
import Derived.Test.YtkecmbgjhamhiaaCrossd
namespace Go.Proofs.Ytkecmbgjhamhiaa
open Go Go.Ai
set_option linter.unusedSimpArgs false
set_option linter.unusedVariables false
set_option maxHeartbeats 4000000
theorem low_mul (L w : Int) (hw : 1 ≤ w) : lowN (L * w) w = L ∧ lowD (L * w) w = 1 := by
  have hd : w.toNat ∣ (max (L * w) (0 - L * w)).toNat := by
    have h2 : ((max (L * w) (0 - L * w)).toNat : Int) = max (L * w) (0 - L * w) := by omega
    have h3 : w ∣ L * w := Int.dvd_mul_left L w
    have h4 : w ∣ max (L * w) (0 - L * w) := by
      by_cases h : L * w ≤ 0 - L * w
      · rw [Int.max_eq_right h, Int.zero_sub]; exact Int.dvd_neg.2 h3
      · rw [Int.max_eq_left (by omega)]; exact h3
    rw [← h2] at h4
    have h5 : ((w.toNat : Nat) : Int) ∣ ((max (L * w) (0 - L * w)).toNat : Int) := by
      have h1 : (w.toNat : Int) = w := by omega
      generalize (max (L * w) (0 - L * w)).toNat = z at *
      rw [h1]; exact h4
    exact Int.natCast_dvd_natCast.1 h5
  have hG : lowG (L * w) w = w := by
    unfold lowG
    rw [Nat.gcd_eq_right hd]; omega
  refine ⟨?_, ?_⟩
  · unfold lowN; rw [hG]; exact Int.mul_tdiv_cancel L (by omega)
  · unfold lowD; rw [hG]; exact Int.tdiv_self (by omega)
/-- Fractions, each greater than the one before and than lb. -/
def Inc : Int → List (Int × Int) → Prop
  | _, [] => True
  | lb, x :: r => lb * x.2 < x.1 ∧ ∃ m, x.1 < m * x.2 ∧ Inc m r
theorem Inc.mono : ∀ {l : List (Int × Int)} {a b : Int}, Inc b l → a ≤ b → (∀ x ∈ l, 1 ≤ x.2) → Inc a l
  | [], _, _, _, _, _ => trivial
  | x :: r, a, b, h, hab, hd => by
    have h1 := hd x (by simp)
    have h2 := Int.mul_le_mul_of_nonneg_right hab (show 0 ≤ x.2 by omega)
    exact ⟨by have := h.1; omega, h.2⟩
/-- What holds of a crossing. -/
def crOk (l : List Smp) (L f t : Int) (x : Int × Int) : Prop :=
  (1 ≤ x.2 ∧ x.2 ≤ 2000000) ∧ (f * x.2 ≤ x.1 ∧ x.1 < t * x.2) ∧ (x.2 = 1 → ∃ q, q ≠ 2 ∧ valSp l false x.1 = (⟨x.1, L, 1, q⟩, true))
theorem valSp_at {l : List Smp} (hg : Good l) (i : Int) (h0 : 0 ≤ i) (hi : i < l.length) : hold l (l.getD i.toNat default).a = i := by
  refine hold_eq (by omega) hi (fun j hj hj2 => ?_) (fun j hj hj2 => ?_)
  · exact hg.le j i.toNat (by omega) (by omega)
  · exact hg.up i.toNat j (by omega) hj2
theorem emit_ok {l : List Smp} (hg : Good l) {L f t from_ i : Int} (hL : -1000000 ≤ L ∧ L ≤ 1000000) (h0 : 0 ≤ from_) (hfi : from_ < i) (hi : i < l.length) (ha : (l.getD from_.toNat default).q ≠ 2) (hb : (l.getD i.toNat default).q ≠ 2) (ho : opp L (l.getD from_.toNat default) (l.getD i.toNat default)) (hbt : ∀ j : Int, from_ < j → j < i → (l.getD j.toNat default).q ≠ 2 ∧ (l.getD j.toNat default).v = L)
    (hw : f * (crP L (l.getD from_.toNat default) (nxt l from_ i) (l.getD i.toNat default)).2 ≤ (crP L (l.getD from_.toNat default) (nxt l from_ i) (l.getD i.toNat default)).1 ∧ (crP L (l.getD from_.toNat default) (nxt l from_ i) (l.getD i.toNat default)).1 < t * (crP L (l.getD from_.toNat default) (nxt l from_ i) (l.getD i.toNat default)).2) (x : Int × Int)
    (hx : x = (lowN (crP L (l.getD from_.toNat default) (nxt l from_ i) (l.getD i.toNat default)).1 (crP L (l.getD from_.toNat default) (nxt l from_ i) (l.getD i.toNat default)).2, lowD (crP L (l.getD from_.toNat default) (nxt l from_ i) (l.getD i.toNat default)).1 (crP L (l.getD from_.toNat default) (nxt l from_ i) (l.getD i.toNat default)).2)) :
    crOk l L f t x ∧ (l.getD from_.toNat default).a * x.2 < x.1 ∧ x.1 < (l.getD i.toNat default).a * x.2 := by
  have hoa := hg.ok from_.toNat (by omega)
  have hob := hg.ok i.toNat (by omega)
  have hup := hg.up from_.toNat i.toNat (by omega) (by omega)
  have hbd := crN_bd hoa hob hL hup ho
  by_cases hn : i > from_ + 1
  · have en : nxt l from_ i = some (l.getD (from_ + 1).toNat default).a := by unfold nxt; rw [if_pos hn]
    rw [en] at hw hx
    simp only [crP, lowN_one, lowD_one] at hw hx
    subst hx
    have h1 := hg.up from_.toNat (from_ + 1).toNat (by omega) (by omega)
    have h2 := hg.up (from_ + 1).toNat i.toNat (by omega) (by omega)
    obtain ⟨h3, h4⟩ := hbt (from_ + 1) (by omega) hn
    refine ⟨⟨⟨by simp, by simp⟩, hw, fun _ => ⟨_, h3, ?_⟩⟩, by simp only; omega, by simp only; omega⟩
    simp only [valSp]
    rw [valSp_at hg (from_ + 1) (by omega) (by omega), if_neg (by omega), if_pos (.inr (.inr (.inl rfl))), h4]
  · have hie : i = from_ + 1 := by omega
    have en : nxt l from_ i = none := by unfold nxt; rw [if_neg hn]
    rw [en] at hw hx
    simp only [crP] at hw hx
    have hlow := low_eq (crN L (l.getD from_.toNat default) (l.getD i.toNat default)) (crD (l.getD from_.toNat default) (l.getD i.toNat default)) (by omega)
    have w1 := low_win f (crN L (l.getD from_.toNat default) (l.getD i.toNat default)) (crD (l.getD from_.toNat default) (l.getD i.toNat default)) (by omega)
    have w2 := low_win t (crN L (l.getD from_.toNat default) (l.getD i.toNat default)) (crD (l.getD from_.toNat default) (l.getD i.toNat default)) (by omega)
    have w3 := low_win (l.getD from_.toNat default).a (crN L (l.getD from_.toNat default) (l.getD i.toNat default)) (crD (l.getD from_.toNat default) (l.getD i.toNat default)) (by omega)
    have w4 := low_win (l.getD i.toNat default).a (crN L (l.getD from_.toNat default) (l.getD i.toNat default)) (crD (l.getD from_.toNat default) (l.getD i.toNat default)) (by omega)
    have hdb := tdiv_bd (n := crD (l.getD from_.toNat default) (l.getD i.toNat default)) (B := 2000000) hlow.2.2.1 (by omega) (by omega)
    have hDb : lowD (crN L (l.getD from_.toNat default) (l.getD i.toNat default)) (crD (l.getD from_.toNat default) (l.getD i.toNat default)) ≤ 2000000 := hdb.2
    have hval := fun (at_ : Int) (h1 : (l.getD from_.toNat default).a < at_) (h2 : at_ < (l.getD i.toNat default).a) => show hold l at_ = from_ from hold_eq (by omega) (by omega) (fun j hj hj2 => by have := hg.le j from_.toNat (by omega) (by omega); omega) (fun j hj hj2 => by have := hg.le i.toNat j (by omega) hj2; omega)
    have hcN : crN L (l.getD from_.toNat default) (l.getD i.toNat default) = (l.getD from_.toNat default).a * crD (l.getD from_.toNat default) (l.getD i.toNat default) + ((l.getD i.toNat default).a - (l.getD from_.toNat default).a) * max (L - (l.getD from_.toNat default).v) ((l.getD from_.toNat default).v - L) := rfl
    have hvs := fun at_ => (rfl : valSp l false at_ = valSp l false at_)
    generalize lowN (crN L (l.getD from_.toNat default) (l.getD i.toNat default)) (crD (l.getD from_.toNat default) (l.getD i.toNat default)) = N at *
    generalize lowD (crN L (l.getD from_.toNat default) (l.getD i.toNat default)) (crD (l.getD from_.toNat default) (l.getD i.toNat default)) = D at *
    generalize lowG (crN L (l.getD from_.toNat default) (l.getD i.toNat default)) (crD (l.getD from_.toNat default) (l.getD i.toNat default)) = G at *
    obtain ⟨q1, q2, q3, q4⟩ := hlow
    have hm : 1 ≤ max (L - (l.getD from_.toNat default).v) ((l.getD from_.toNat default).v - L) ∧ max (L - (l.getD from_.toNat default).v) ((l.getD from_.toNat default).v - L) < crD (l.getD from_.toNat default) (l.getD i.toNat default) := by
      unfold crD; unfold opp at ho; omega
    have m1 := Int.mul_pos (show 0 < (l.getD i.toNat default).a - (l.getD from_.toNat default).a by omega) (show 0 < max (L - (l.getD from_.toNat default).v) ((l.getD from_.toNat default).v - L) by omega)
    have m2 := Int.mul_lt_mul_of_pos_left hm.2 (show 0 < (l.getD i.toNat default).a - (l.getD from_.toNat default).a by omega)
    rw [Int.sub_mul ((l.getD i.toNat default).a) _ (crD _ _)] at m2
    have hlt1 : (l.getD from_.toNat default).a * crD (l.getD from_.toNat default) (l.getD i.toNat default) < crN L (l.getD from_.toNat default) (l.getD i.toNat default) := by rw [hcN]; omega
    have hlt2 : crN L (l.getD from_.toNat default) (l.getD i.toNat default) < (l.getD i.toNat default).a * crD (l.getD from_.toNat default) (l.getD i.toNat default) := by rw [hcN]; omega
    have hx1 : (l.getD from_.toNat default).a * D < N := by
      rcases Int.lt_or_le ((l.getD from_.toNat default).a * D) N with h | h
      · exact h
      · exfalso
        have h5 := Int.mul_le_mul_of_nonneg_left h (show 0 ≤ G by omega)
        rw [← q1, Int.mul_left_comm, ← q2] at h5
        omega
    have hx2 : N < (l.getD i.toNat default).a * D := w4.2.2 hlt2
    subst hx
    refine ⟨⟨⟨q4, hDb⟩, ⟨w1.1.2 hw.1, w2.2.2 hw.2⟩, fun hD1 => ?_⟩, hx1, hx2⟩
    simp only at hD1
    subst hD1
    rw [Int.mul_one] at hx1 hx2 q2
    have hh := hval N hx1 hx2
    refine ⟨max (l.getD from_.toNat default).q (l.getD i.toNat default).q, by unfold okSmp at hoa hob; omega, ?_⟩
    have ei : (from_ + 1).toNat = i.toNat := by omega
    simp only [valSp]
    rw [hh, if_neg (by omega), ei, if_neg ?_]
    · have hline : lineN (l.getD from_.toNat default) (l.getD i.toNat default) N = L * ((l.getD i.toNat default).a - (l.getD from_.toNat default).a) := by
        have e1 : crN L (l.getD from_.toNat default) (l.getD i.toNat default) = crD (l.getD from_.toNat default) (l.getD i.toNat default) * N := by rw [q2]; exact q1
        rw [e1] at hcN
        unfold lineN
        generalize l.getD from_.toNat default = a at *
        generalize l.getD i.toNat default = b at *
        unfold opp at ho
        rcases ho with ho | ho
        · have e2 : crD a b = b.v - a.v := by unfold crD; omega
          have e3 : max (L - a.v) (a.v - L) = L - a.v := by omega
          rw [e2, e3] at hcN
          rw [Int.mul_sub (b.v - a.v) N, hcN, Int.mul_comm (b.v - a.v) a.a, Int.mul_comm L (b.a - a.a), Int.mul_sub (b.a - a.a) L a.v, Int.mul_comm a.v (b.a - a.a)]
          omega
        · have e2 : crD a b = a.v - b.v := by unfold crD; omega
          have e3 : max (L - a.v) (a.v - L) = a.v - L := by omega
          rw [e2, e3] at hcN
          have e4 : (b.v - a.v) = -(a.v - b.v) := by omega
          rw [e4, Int.neg_mul, Int.mul_sub (a.v - b.v) N, hcN, Int.mul_comm (a.v - b.v) a.a, Int.mul_comm L (b.a - a.a), Int.mul_sub (b.a - a.a) a.v L, Int.mul_comm a.v (b.a - a.a)]
          omega
      rw [hline, (low_mul L _ (by omega)).1, (low_mul L _ (by omega)).2]
    · simp only [Bool.false_eq_true, false_or]
      omega
end Go.Proofs.Ytkecmbgjhamhiaa


/-
 The shares of a batch in all batches into which nothing went add up to 1, in plain terms.
-/
import Derived.Test.YtjamjffppcjeiaaGreatDoorShr
import Derived.Test.YtjamjffppcjeiaaGreatDoorSrt
namespace Go.Proofs.YtjamjffppcjeiaaGreatDoor
open Go Go.Ai
set_option linter.unusedSimpArgs false
set_option linter.unusedVariables false
set_option maxHeartbeats 4000000
/-! ### numbers -/
theorem pow_split (a b : Nat) (k : Nat) (h : 2 ^ k ∣ a * b) : ∃ i j, k = i + j ∧ 2 ^ i ∣ a ∧ 2 ^ j ∣ b := by
 induction k generalizing a b with
 | zero => exact ⟨0, 0, rfl, by simp, by simp⟩
 | succ k ih =>
  have h2 : 2 ∣ a * b := Nat.dvd_trans ⟨2 ^ k, by rw [Nat.pow_succ, Nat.mul_comm]⟩ h
  have hp : Nat.Coprime 2 a ∨ 2 ∣ a := by
   by_cases c : 2 ∣ a
   ·exact .inr c
   ·refine .inl ?_
    have h1 := Nat.gcd_dvd_left 2 a
    have h3 := Nat.gcd_dvd_right 2 a
    have h4 : Nat.gcd 2 a ≤ 2 := Nat.le_of_dvd (by omega) h1
    have h5 : 0 < Nat.gcd 2 a := Nat.gcd_pos_of_pos_left _ (by omega)
    have h6 : Nat.gcd 2 a ≠ 2 := fun e => c (e ▸ h3)
    show Nat.gcd 2 a = 1
    omega
  rcases hp with hp | ⟨a', rfl⟩
  ·obtain ⟨b', rfl⟩ := hp.dvd_of_dvd_mul_left h2
   have h3 : 2 ^ k ∣ a * b' := by
    obtain ⟨c, hc⟩ := h
    refine ⟨c, ?_⟩
    rw [Nat.pow_succ] at hc
    have : 2 * (a * b') = 2 * (2 ^ k * c) := by
     rw [Nat.mul_left_comm] at hc; rw [hc]; ac_rfl
    omega
   obtain ⟨i, j, e, hi, hj⟩ := ih a b' h3
   refine ⟨i, j + 1, by omega, hi, ?_⟩
   rw [Nat.pow_succ, Nat.mul_comm]; exact Nat.mul_dvd_mul_left 2 hj
  ·have h3 : 2 ^ k ∣ a' * b := by
    obtain ⟨c, hc⟩ := h
    refine ⟨c, ?_⟩
    rw [Nat.pow_succ] at hc
    have : 2 * (a' * b) = 2 * (2 ^ k * c) := by
     rw [Nat.mul_assoc] at hc; rw [hc]; ac_rfl
    omega
   obtain ⟨i, j, e, hi, hj⟩ := ih a' b h3
   refine ⟨i + 1, j, by omega, ?_, hj⟩
   rw [Nat.pow_succ, Nat.mul_comm]; exact Nat.mul_dvd_mul_left 2 hi
theorem pow_le_of {k a e : Nat} (ha : 0 < a) (h : a < 2 ^ (e + 1)) (hd : 2 ^ k ∣ a) : k ≤ e := by
 have h1 := Nat.le_of_dvd ha hd
 have h2 : 2 ^ k < 2 ^ (e + 1) := by omega
 have := (Nat.pow_lt_pow_iff_right (by omega : 1 < 2)).1 h2
 omega
theorem pow_sq (d : Nat) (k : Nat) (h : 2 ^ (2 * k) ∣ d * d) : 2 ^ k ∣ d := by
 obtain ⟨i, j, e, hi, hj⟩ := pow_split d d (2 * k) h
 by_cases c : k ≤ i
 ·exact Nat.dvd_trans (Nat.pow_dvd_pow 2 c) hi
 ·exact Nat.dvd_trans (Nat.pow_dvd_pow 2 (by omega : k ≤ j)) hj
/-- What a fraction is in lowest terms, by natural numbers. -/
theorem low_nat (n d : Nat) (hd : 0 < d) : lowN n d = ((n / Nat.gcd n d : Nat) : Int) ∧ lowD n d = ((d / Nat.gcd n d : Nat) : Int) := by
 have e : lowG (n : Int) d = (Nat.gcd n d : Nat) := by
  unfold lowG
  rw [show (max (n : Int) (0 - n)).toNat = n by omega, Int.toNat_natCast]
 unfold lowN lowD
 rw [e]
 exact ⟨rfl, rfl⟩
theorem ratio_nat {n d n' d' : Nat} (hd : 0 < d) (hd' : 0 < d') (h : n * d' = n' * d) : n / Nat.gcd n d = n' / Nat.gcd n' d' ∧ d / Nat.gcd n d = d' / Nat.gcd n' d' := by
 have g1 : 0 < Nat.gcd n d := Nat.gcd_pos_of_pos_right _ hd
 have g2 : 0 < Nat.gcd n' d' := Nat.gcd_pos_of_pos_right _ hd'
 have c1 : Nat.Coprime (n / Nat.gcd n d) (d / Nat.gcd n d) := Nat.coprime_div_gcd_div_gcd g1
 have c2 : Nat.Coprime (n' / Nat.gcd n' d') (d' / Nat.gcd n' d') := Nat.coprime_div_gcd_div_gcd g2
 have en := Nat.div_mul_cancel (Nat.gcd_dvd_left n d)
 have ed := Nat.div_mul_cancel (Nat.gcd_dvd_right n d)
 have en' := Nat.div_mul_cancel (Nat.gcd_dvd_left n' d')
 have ed' := Nat.div_mul_cancel (Nat.gcd_dvd_right n' d')
 generalize n / Nat.gcd n d = a at *
 generalize d / Nat.gcd n d = b at *
 generalize n' / Nat.gcd n' d' = a' at *
 generalize d' / Nat.gcd n' d' = b' at *
 generalize Nat.gcd n d = g at *
 generalize Nat.gcd n' d' = g' at *
 have hb : 0 < b := by rcases Nat.eq_zero_or_pos b with rfl | hb <;> omega
 have hb' : 0 < b' := by rcases Nat.eq_zero_or_pos b' with rfl | hb' <;> omega
 have hx : a * b' = a' * b := by
  subst en; subst ed; subst en'; subst ed'
  have : (a * b') * (g * g') = (a' * b) * (g * g') := by
   calc (a * b') * (g * g') = a * g * (b' * g') := by ac_rfl
    _ = a' * g' * (b * g) := h
    _ = (a' * b) * (g * g') := by ac_rfl
  exact Nat.eq_of_mul_eq_mul_right (Nat.mul_pos g1 g2) this
 have d1 : b ∣ b' := (Nat.Coprime.symm c1).dvd_of_dvd_mul_left ⟨a', by rw [hx, Nat.mul_comm]⟩
 have d2 : b' ∣ b := (Nat.Coprime.symm c2).dvd_of_dvd_mul_left ⟨a, by rw [← hx, Nat.mul_comm]⟩
 have eb := Nat.dvd_antisymm d1 d2
 subst eb
 exact ⟨Nat.eq_of_mul_eq_mul_right hb hx, rfl⟩
theorem low_ratio {n d n' d' : Int} (hn : 0 ≤ n) (hn' : 0 ≤ n') (hd : 0 < d) (hd' : 0 < d') (h : n * d' = n' * d) : lowN n d = lowN n' d' ∧ lowD n d = lowD n' d' := by
 have e1 := low_nat n.toNat d.toNat (by omega)
 have e2 := low_nat n'.toNat d'.toNat (by omega)
 rw [Int.toNat_of_nonneg hn, Int.toNat_of_nonneg (by omega : (0 : Int) ≤ d)] at e1
 rw [Int.toNat_of_nonneg hn', Int.toNat_of_nonneg (by omega : (0 : Int) ≤ d')] at e2
 have := ratio_nat (n := n.toNat) (d := d.toNat) (n' := n'.toNat) (d' := d'.toNat) (by omega) (by omega) (by
  have : ((n.toNat * d'.toNat : Nat) : Int) = (n'.toNat * d.toNat : Nat) := by
   rw [Int.natCast_mul, Int.natCast_mul, Int.toNat_of_nonneg hn, Int.toNat_of_nonneg hn', Int.toNat_of_nonneg (by omega : (0 : Int) ≤ d), Int.toNat_of_nonneg (by omega : (0 : Int) ≤ d'), h]
  exact Int.ofNat_inj.1 this)
 rw [e1.1, e1.2, e2.1, e2.2, this.1, this.2]
 exact ⟨rfl, rfl⟩
/-- A fraction in lowest terms is that fraction. -/
theorem low_mul {n d : Int} (hn : 0 ≤ n) (hd : 0 < d) : ∃ g : Int, 1 ≤ g ∧ n = lowN n d * g ∧ d = lowD n d * g ∧ 0 ≤ lowN n d ∧ 1 ≤ lowD n d ∧ lowN n d ≤ n ∧ lowD n d ≤ d := by
 have e := low_nat n.toNat d.toNat (by omega)
 rw [Int.toNat_of_nonneg hn, Int.toNat_of_nonneg (by omega : (0 : Int) ≤ d)] at e
 have g1 : 0 < Nat.gcd n.toNat d.toNat := Nat.gcd_pos_of_pos_right _ (by omega)
 have en := Nat.div_mul_cancel (Nat.gcd_dvd_left n.toNat d.toNat)
 have ed := Nat.div_mul_cancel (Nat.gcd_dvd_right n.toNat d.toNat)
 rw [e.1, e.2]
 generalize n.toNat / Nat.gcd n.toNat d.toNat = a at *
 generalize d.toNat / Nat.gcd n.toNat d.toNat = b at *
 generalize Nat.gcd n.toNat d.toNat = g at *
 have hb : 0 < b := by rcases Nat.eq_zero_or_pos b with rfl | hb <;> omega
 refine ⟨g, by omega, ?_, ?_, by omega, by omega, ?_, ?_⟩
 ·rw [← Int.natCast_mul, en]; omega
 ·rw [← Int.natCast_mul, ed]; omega
 ·have : a ≤ a * g := Nat.le_mul_of_pos_right _ g1
  omega
 ·have : b ≤ b * g := Nat.le_mul_of_pos_right _ g1
  omega
theorem low_self {d : Int} (hd : 0 < d) : lowN d d = 1 ∧ lowD d d = 1 := by
 have h := low_ratio (n := d) (d := d) (n' := 1) (d' := 1) (by omega) (by omega) hd (by omega) (by omega)
 rw [h.1, h.2]; exact ⟨rfl, rfl⟩
theorem low_zero {d : Int} (hd : 0 < d) : lowN 0 d = 0 ∧ lowD 0 d = 1 := by
 have h := low_ratio (n := 0) (d := d) (n' := 0) (d' := 1) (by omega) (by omega) hd (by omega) (by omega)
 rw [h.1, h.2]; exact ⟨rfl, rfl⟩
/-- The sum of two fractions with one denominator. -/
theorem low_add {a b d : Int} (ha : 0 ≤ a) (hb : 0 ≤ b) (hd : 0 < d) :
  0 ≤ lowN a d * lowD b d + lowN b d * lowD a d ∧ 0 < lowD a d * lowD b d ∧
  lowN (lowN a d * lowD b d + lowN b d * lowD a d) (lowD a d * lowD b d) = lowN (a + b) d ∧ lowD (lowN a d * lowD b d + lowN b d * lowD a d) (lowD a d * lowD b d) = lowD (a + b) d := by
 obtain ⟨g, g1, ea, ed, na, da, _, _⟩ := low_mul ha hd
 obtain ⟨k, k1, eb, ed', nb, db, _, _⟩ := low_mul hb hd
 generalize lowN a d = x at *
 generalize lowD a d = y at *
 generalize lowN b d = u at *
 generalize lowD b d = v at *
 have h1 : 0 ≤ x * v + u * y := Int.add_nonneg (Int.mul_nonneg na (by omega)) (Int.mul_nonneg nb (by omega))
 have h2 : 0 < y * v := Int.mul_pos (by omega) (by omega)
 refine ⟨h1, h2, ?_⟩
 refine low_ratio h1 (by omega) h2 hd ?_
 -- (x v + u y) d = (a + b) y v
 rw [Int.add_mul, Int.add_mul]
 have e1 : x * v * d = a * (y * v) := by
  rw [ea, ed]; ac_rfl
 have e2 : u * y * d = b * (y * v) := by
  rw [eb]
  have : u * y * d = u * y * (v * k) := by rw [← ed']
  rw [this]; ac_rfl
 rw [e1, e2]
/-- Two fractions that add up to 1 have one denominator. -/
theorem low_one {a b d : Int} (ha : 0 ≤ a) (hb : 0 ≤ b) (hd : 0 < d) (h : a + b = d) : lowD a d = lowD b d ∧ lowN a d * lowD b d + lowN b d * lowD a d = lowD b d * lowD b d := by
 have key : lowD a d = lowD b d := by
  have e1 := (low_nat a.toNat d.toNat (by omega)).2
  have e2 := (low_nat b.toNat d.toNat (by omega)).2
  rw [Int.toNat_of_nonneg ha, Int.toNat_of_nonneg (by omega : (0 : Int) ≤ d)] at e1
  rw [Int.toNat_of_nonneg hb, Int.toNat_of_nonneg (by omega : (0 : Int) ≤ d)] at e2
  rw [e1, e2]
  have : d.toNat = a.toNat + b.toNat := by omega
  rw [this, Nat.gcd_self_add_right, Nat.gcd_add_self_right, Nat.gcd_comm]
 refine ⟨key, ?_⟩
 obtain ⟨g, g1, ea, ed, na, da, _, _⟩ := low_mul ha hd
 obtain ⟨k, k1, eb, ed', nb, db, _, _⟩ := low_mul hb hd
 rw [key] at ed
 have hgk : g = k := by
  have : lowD b d * g = lowD b d * k := by rw [← ed, ← ed']
  exact Int.eq_of_mul_eq_mul_left (by omega) this
 subst hgk
 rw [key]
 have : (lowN a d + lowN b d) * g = lowD b d * g := by
  rw [Int.add_mul, ← ea, ← eb, h, ← ed']
 have h2 : lowN a d + lowN b d = lowD b d := Int.eq_of_mul_eq_mul_right (by omega) this
 rw [← Int.add_mul, h2]
end Go.Proofs.YtjamjffppcjeiaaGreatDoor

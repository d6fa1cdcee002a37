
/-
 Values in thousandths; profiles of frames: their contracts, the values handed back as new memory.
-/
import Derived.Test.YtjamjffppcjeiaaGreatDoorFrq
namespace Go.Proofs.YtjamjffppcjeiaaGreatDoor
open Go Go.Ai
set_option linter.unusedSimpArgs false
set_option linter.unusedVariables false
set_option maxHeartbeats 4000000
def C_down : AC := (.seq (.reg false [gI 4 (.mv (oI 0))] (kP [0,1] [] []))
 (.seq (.reg false [gM 6 0,gM 7 1,gI 8 (.bin .quo (.t 6) (.t 7)),gM 5 8] (kP [0,1,5] [] []))
 (.seq (.seq (.reg false [gM 9 0,gM 10 1,gI 11 (.bin .rem (.t 9) (.t 10)),gI 12 (.bin .lss (.t 11) (oI 0))] (kP [5,12] [] []))
 (.cond (.t 12)
 (.reg false [gM 13 5,gI 14 (.bin .sub (.t 13) (oI 1)),gM 5 14] (kP [5] [] []))
 .skip))
 (.seq (.reg false [gM 15 5,gM 4 15] (kP [4] [] []))
 .ret))))
theorem fc_down : FcT Tryz.prog 92 Tryz.f92 C_down [.t 4] := fc_mk [aN [0,1] [] [],aN [0,1,5] [] [],aN [5,12] [] [],aN [5] [] [],aN [4] [] []] Tryz.func92 (by kernel_rfl)
def C_thousandths : AC := (.seq (.reg false [gI 6 (.mv (oI 0)),gI 7 (.mv (.v (.bool false)))] (kP [0,1,2] [] []))
 (.seq (.reg false [gM 12 0,gM 13 1,gM 14 2,gI 15 (.call (.f 91) [(.t 12),(.t 13),(.t 14)]),gM 11 15,gI 16 (.extr (.t 11) 0),gI 17 (.extr (.t 11) 1),gI 8 (.alloc [(.int .i64 (0)),(.int .i64 (0)),(.int .i64 (0)),(.int .i64 (0))]),gN (.store 4 (.t 8) (.t 16)),gM 9 17] (kP [8,9] [8] []))
 (.seq (.seq (.reg false [gM 18 9,gI 19 (.un .not (.t 18)),gM 20 19,gG 21 20 false (.fadr 3 (.t 8)),gG 22 20 false (.load false 1 (.t 21)),gG 23 20 false (.bin .eql (.t 22) (oI 2)),gI 24 (.pick (.t 20) (.v (.bool true)) (.t 23))] (kP [8,24] [8] []))
 (.cond (.t 24)
 (.seq (.reg false [gI 6 (.mv (oI 0)),gI 7 (.mv (.v (.bool false)))] (kP [6,7] [] []))
 .ret)
 .skip))
 (.seq (.reg false [gI 25 (.fadr 1 (.t 8)),gI 26 (.fadr 0 (.t 25)),gI 27 (.load false 1 (.t 26)),gI 28 (.fadr 1 (.t 8)),gI 29 (.fadr 1 (.t 28)),gI 30 (.load false 1 (.t 29)),gI 31 (.call (.f 92) [(.t 27),(.t 30)]),gM 10 31] (kP [8,10] [8] []))
 (.seq (.reg false [gM 32 10,gI 33 (.bin .mul (.t 32) (oI 1000)),gI 34 (.fadr 1 (.t 8)),gI 35 (.fadr 0 (.t 34)),gI 36 (.load false 1 (.t 35)),gM 37 10,gI 38 (.fadr 1 (.t 8)),gI 39 (.fadr 1 (.t 38)),gI 40 (.load false 1 (.t 39)),gI 41 (.bin .mul (.t 37) (.t 40)),gI 42 (.bin .sub (.t 36) (.t 41)),gI 43 (.bin .mul (.t 42) (oI 1000)),gI 44 (.fadr 1 (.t 8)),gI 45 (.fadr 1 (.t 44)),gI 46 (.load false 1 (.t 45)),gI 47 (.bin .quo (.t 43) (.t 46)),gI 48 (.bin .add (.t 33) (.t 47)),gM 6 48,gI 7 (.mv (.v (.bool true)))] (kP [6,7] [] []))
 .ret)))))
theorem fc_thousandths : FcT Tryz.prog 71 Tryz.f71 C_thousandths [.t 6, .t 7] := fc_mk [aN [0,1,2] [] [],aN [8,9] [8] [],aN [8,24] [8] [],aN [6,7] [] [],aN [8,10] [8] [],aN [6,7] [] []] Tryz.func71 (by kernel_rfl)
def C_mprofile : AC := (.seq (.reg false [gI 4 (.box (.t 1)),gI 6 (.mv (.v (.slice none 0 0))),gI 7 (.mv (.v (.bool false)))] (kP [0,2,4] [4] [8]))
 (.seq (.seq (.reg false [gI 8 (.mv (.v (.slice none 0 0)))] (kP [0,2,4,8] [4] []))
 (.own 8 3 1))
 (.seq (.seq (.reg false [gM 12 2,gI 13 (.bin .add (.t 12) (oI 1)),gI 14 (.mv (oI 0))] (kP [0,2,4,8,13,14] [4] [8]))
 (.block 0 (.loop (.seq (.reg false [gI 15 (.bin .lss (.t 14) (.t 13))] (kP [0,2,4,8,13,14,15] [4] [8]))
 (.seq (.cond (.t 15)
 .skip
 (.exit 0))
 (.seq (.block 1 (.seq (.reg false [gM 16 14,gM 9 16] (kP [0,2,4,8,9,13,14] [4] [8]))
 (.seq (.reg true [gM 18 0,gI 19 (.fadr 0 (.t 4)),gI 20 (.load false 1 (.t 19)),gM 21 9,gI 22 (.fadr 1 (.t 4)),gI 23 (.load false 1 (.t 22)),gI 24 (.fadr 0 (.t 4)),gI 25 (.load false 1 (.t 24)),gI 26 (.bin .sub (.t 23) (.t 25)),gI 27 (.bin .mul (.t 21) (.t 26)),gM 28 2,gI 29 (.bin .quo (.t 27) (.t 28)),gI 30 (.bin .add (.t 20) (.t 29)),gI 31 (.mnx false (.t 30) (oI 345686399999)),gI 32 (.call (.f 71) [(.t 18),(.v (.bool false)),(.t 31)]),gM 17 32,gI 33 (.extr (.t 17) 0),gI 34 (.extr (.t 17) 1),gM 10 33,gM 11 34] (kP [0,2,4,8,10,11,13,14] [4] [8]))
 (.seq (.seq (.reg false [gM 35 11,gI 36 (.un .not (.t 35))] (kP [0,2,4,8,10,13,14,36] [4] [8]))
 (.cond (.t 36)
 (.seq (.seq (.reg false [gI 6 (.mv (.v (.slice none 0 0))),gI 7 (.mv (.v (.bool false)))] (kP [6,7] [] [8]))
 (.ty 6 1))
 .ret)
 .skip))
 (.reg false [gM 37 8,gM 38 10,gI 39 (.bslice 1 1 [(.t 38)]),gI 40 (.append 3 1 8 (.t 37) (.t 39)),gM 8 40] (kP [0,2,4,8,13,14] [4] [8]))))))
 (.reg false [gI 41 (.bin .add (.t 14) (oI 1)),gM 14 41] (kP [0,2,4,8,13,14] [4] [8]))))))))
 (.seq (.reg false [gM 42 8,gM 6 42,gI 7 (.mv (.v (.bool true)))] (kP [6,7] [] [8]))
 .ret))))
theorem fcm_mprofile : FmT Tryz.prog 49 Tryz.f49 C_mprofile [.t 6, .t 7] := fcm_mk [aN [0,2,4] [4] [8],⟨(kP [0,2,4,8] [4] []),[(8,3,1)],[],[],[]⟩,aN [0,2,4,8,13,14] [4] [8],aN [0,2,4,8,13,14,15] [4] [8],aN [0,2,4,8,9,13,14] [4] [8],aN [0,2,4,8,10,11,13,14] [4] [8],aN [0,2,4,8,10,13,14,36] [4] [8],⟨(kP [6,7] [] [8]),[],[],[(6,1)],[]⟩,aN [0,2,4,8,13,14] [4] [8],aN [0,2,4,8,13,14] [4] [8],aN [6,7] [] [8]] Tryz.func49 (by kernel_rfl)
def C_mprofileP : AC := (.seq (.reg false [gI 4 (.box (.t 1)),gI 6 (.mv (.v (.slice none 0 0))),gI 7 (.mv (.v (.bool false))),gI 8 (.mv (oI 0))] (kP [0,2,4] [4] [500]))
 (.seq (.seq (.reg false [gM 12 0,gI 13 (.load true 2 (.t 4)),gI 14 (.call (.f 47) [(.t 12),(.t 13)]),gM 9 14] (kP [0,2,4,9] [4] [500]))
 (.seq (.reg false [gM 15 9,gI 16 (.bin .neq (.t 15) (oI 0))] (kP [0,2,4,9,16] [4] [500]))
 (.cond (.t 16)
 (.seq (.seq (.reg false [gM 17 9,gI 6 (.mv (.v (.slice none 0 0))),gI 7 (.mv (.v (.bool false))),gM 8 17] (kP [6,7,8] [] [500]))
 (.ty 6 1))
 .ret)
 .skip)))
 (.seq (.seq (.reg false [gM 18 2,gI 19 (.call (.f 48) [(.t 18),(oI 1),(oI 1000)])] (kP [0,2,4,19] [4] [500]))
 (.cond (.t 19)
 (.seq (.seq (.reg false [gI 6 (.mv (.v (.slice none 0 0))),gI 7 (.mv (.v (.bool false))),gI 8 (.mv (oI 1))] (kP [6,7,8] [] [500]))
 (.ty 6 1))
 .ret)
 .skip))
 (.seq (.reg false [gM 21 0,gI 22 (.load true 2 (.t 4)),gM 23 2,gI 24 (.callm (.f 49) [(.t 21),(.t 22),(.t 23)] ⟨[],[],[],[500],[]⟩),gM 20 24,gI 25 (.extr (.t 20) 0),gI 26 (.extr (.t 20) 1),gM 10 25,gM 11 26] (kP [10,11] [] [500]))
 (.seq (.reg false [gM 27 10,gM 28 11,gM 6 27,gM 7 28,gI 8 (.mv (oI 0))] (kP [6,7,8] [] [500]))
 .ret)))))
theorem fcm_mprofileP : FmT Tryz.prog 18 Tryz.f18 C_mprofileP [.t 6, .t 7, .t 8] := fcm_mk [aN [0,2,4] [4] [500],aN [0,2,4,9] [4] [500],aN [0,2,4,9,16] [4] [500],⟨(kP [6,7,8] [] [500]),[],[],[(6,1)],[]⟩,aN [0,2,4,19] [4] [500],⟨(kP [6,7,8] [] [500]),[],[],[(6,1)],[]⟩,⟨(kP [10,11] [] [500]),[],[],[],[(24,⟨[],[],[],[500],[]⟩)]⟩,aN [6,7,8] [] [500]] Tryz.func18 (by kernel_rfl)
def C_bframeFault : AC := (.seq (.reg false [gI 3 (.box (.t 1)),gI 4 (.mv (oI 0))] (kP [0,3] [3] []))
 (.seq (.reg true [gM 5 0,gI 6 (.call (.f 61) [(.t 5)]),gI 7 (.load true 2 (.t 3)),gI 8 (.bslice 2 1 [(.t 7)]),gI 9 (.call (.f 46) [(.t 8)]),gI 10 (.bslice 1 2 [(.t 6),(.t 9)]),gI 11 (.call (.f 45) [(.t 10)]),gM 4 11] (kP [4] [] []))
 .ret))
theorem fc_bframeFault : FcT Tryz.prog 47 Tryz.f47 C_bframeFault [.t 4] := fc_mk [aN [0,3] [3] [],aN [4] [] []] Tryz.func47 (by kernel_rfl)
theorem tdiv_floor (a b : Int) (hb : 1 ≤ b) : (if a.tmod b < 0 then a.tdiv b - 1 else a.tdiv b) = a / b := by
 have h1 := Int.emod_nonneg a (show b ≠ 0 by omega)
 have h2 := Int.emod_lt_of_pos a (show 0 < b by omega)
 have h4 : b ∣ a → a % b = 0 := fun h => Int.emod_eq_zero_of_dvd h
 have hs : Int.sign b = 1 := Int.sign_eq_one_of_pos (by omega)
 rw [Int.tdiv_eq_ediv, Int.tmod_eq_emod, hs]
 by_cases h : 0 ≤ a ∨ b ∣ a
 ·rw [if_pos h, if_pos h, if_neg (by omega)]; omega
 ·rw [if_neg h, if_neg h, if_pos (by omega)]; omega
theorem ediv_bd {n g B : Int} (hg : 1 ≤ g) (h1 : -B ≤ n) (h2 : n ≤ B) : -B ≤ n / g ∧ n / g ≤ B := by
 have e := Int.mul_ediv_add_emod n g
 have h3 := Int.emod_nonneg n (show g ≠ 0 by omega)
 have h4 := Int.emod_lt_of_pos n (show 0 < g by omega)
 refine ⟨Int.le_ediv_of_mul_le (by omega) ?_, ?_⟩
 ·have h5 : -B * g ≤ -B * 1 ∨ B < 0 := by
   by_cases hB : B < 0
   ·exact .inr hB
   ·left
    have := Int.mul_le_mul_of_nonneg_left (show (1 : Int) ≤ g by omega) (show 0 ≤ B by omega)
    rw [Int.neg_mul, Int.neg_mul]; omega
  omega
 ·have h5 : n / g ≤ B := by
   apply Int.ediv_le_of_le_mul (by omega)
   have := Int.mul_le_mul_of_nonneg_left (show (1 : Int) ≤ g by omega) (show 0 ≤ B by omega)
   omega
  exact h5
theorem down_fc (a b : Int) (ha : -4611686018427387904 ≤ a ∧ a ≤ 4611686018427387904) (hb : 1 ≤ b) : FC Tryz.prog 92 none [iv a, iv b] (fun _ r => r = iv (a / b)) := by
 refine fc_down (by simp +arith) ?_
 have h1 := tdiv_bd hb ha.1 ha.2
 have h2 := tdiv_floor a b hb
 unfold C_down
 simp (maxSteps := 1000000) (disch := omega) only [go_sem]
 exact ⟨fun h => iv_congr (by rw [if_pos h] at h2; exact h2), fun h => iv_congr (by rw [if_neg h] at h2; exact h2)⟩
/-- A fraction in thousandths, rounded down. -/
def thS (n d : Int) : Int := 1000 * (n / d) + (1000 * (n % d)).tdiv d
theorem th_facts (n d : Int) (hn : -2000000000000000000 ≤ n ∧ n ≤ 2000000000000000000) (hd : 1 ≤ d) (hd2 : d ≤ 345686400000) (hq : -9000000000000 ≤ n / d ∧ n / d ≤ 9000000000000) :
  n - n / d * d = n % d ∧ 0 ≤ n % d ∧ n % d < d ∧ 0 ≤ (1000 * (n % d)).tdiv d ∧ (1000 * (n % d)).tdiv d ≤ 1000 * (n % d) ∧ n / d * d = n - n % d := by
 have e := Int.mul_ediv_add_emod n d
 have e2 := Int.mul_comm d (n / d)
 have h3 := Int.emod_nonneg n (show d ≠ 0 by omega)
 have h4 := Int.emod_lt_of_pos n (show 0 < d by omega)
 exact ⟨by omega, h3, h4, Int.tdiv_nonneg (by omega) (by omega), Int.tdiv_le_self _ (by omega), by omega⟩
def thV (l : List Smp) (st : Bool) (at_ : Int) : Int × Bool := if (valSp l st at_).2 = false ∨ (valSp l st at_).1.q = 2 then (0, false) else (thS (valSp l st at_).1.n (valSp l st at_).1.d, true)
/-- How large a value is. -/
theorem valSp_bd {l : List Smp} (hg : Good l) (st : Bool) {at_ : Int} (ha : 0 ≤ at_ ∧ at_ ≤ 345686400000) (h : (valSp l st at_).2 = true) :
  (-2000000000000000000 ≤ (valSp l st at_).1.n ∧ (valSp l st at_).1.n ≤ 2000000000000000000) ∧ 1 ≤ (valSp l st at_).1.d ∧ (valSp l st at_).1.d ≤ 345686400000 ∧ -1000000 ≤ (valSp l st at_).1.n / (valSp l st at_).1.d ∧ (valSp l st at_).1.n / (valSp l st at_).1.d ≤ 1000000 := by
 obtain ⟨h1, h2, h3, h4⟩ := hold_spec l at_ (fun i j h h' => hg.le i j h h')
 have hdef : valSp l st at_ = valSp l st at_ := rfl
 conv at hdef => rhs; unfold valSp
 rw [hdef] at h ⊢
 simp only [] at h ⊢
 split at h
 ·cases h
 ·rename_i hk
  have hok := hg.ok (hold l at_).toNat (by omega)
  rw [if_neg hk]
  by_cases hc : (l.getD (hold l at_).toNat default).q = 2 ∨ st = true ∨ (l.getD (hold l at_).toNat default).a = at_ ∨ hold l at_ + 1 = l.length ∨ (l.getD (hold l at_ + 1).toNat default).q = 2
  ·rw [if_pos hc]
   unfold okSmp at hok
   simp only [Int.ediv_one]
   omega
  ·rw [if_neg hc]
   simp only []
   have hc' : ¬ hold l at_ + 1 = l.length := fun h => hc (.inr (.inr (.inr (.inl h))))
   have hokn := hg.ok (hold l at_ + 1).toNat (by omega)
   have hup := hg.up (hold l at_).toNat (hold l at_ + 1).toNat (by omega) (by omega)
   have hb := lineN_bd hok hokn ha
   have ha2 := h3 (hold l at_).toNat (by omega) (by omega)
   have ha3 := h4 (hold l at_ + 1).toNat (by omega) (by omega)
   generalize l.getD (hold l at_).toNat default = p at *
   generalize l.getD (hold l at_ + 1).toNat default = n at *
   have hN : lineN p n at_ = p.v * (n.a - p.a) + (n.v - p.v) * (at_ - p.a) := rfl
   have hlow := low_eq (lineN p n at_) (n.a - p.a) (by omega)
   have hg2 := hlow.2.2.1
   have hD := tdiv_bd (n := n.a - p.a) (B := 345686400000) hg2 (by unfold okSmp at *; omega) (by unfold okSmp at *; omega)
   have hNb := tdiv_bd (n := lineN p n at_) (B := 2000000000000000000) hg2 (by omega) (by omega)
   have hd1 := hlow.2.2.2
   unfold okSmp at *
   -- the value lies between the two
   have key : -1000000 * (n.a - p.a) ≤ lineN p n at_ ∧ lineN p n at_ ≤ 1000000 * (n.a - p.a) := by
    have hx : lineN p n at_ = p.v * (n.a - at_) + n.v * (at_ - p.a) := by
     rw [hN, Int.sub_mul, Int.mul_sub, Int.mul_sub, Int.mul_sub, Int.mul_sub]; omega
    have m1 := Int.mul_le_mul_of_nonneg_right (show p.v ≤ 1000000 by omega) (show 0 ≤ n.a - at_ by omega)
    have m2 := Int.mul_le_mul_of_nonneg_right (show -1000000 ≤ p.v by omega) (show 0 ≤ n.a - at_ by omega)
    have m3 := Int.mul_le_mul_of_nonneg_right (show n.v ≤ 1000000 by omega) (show 0 ≤ at_ - p.a by omega)
    have m4 := Int.mul_le_mul_of_nonneg_right (show -1000000 ≤ n.v by omega) (show 0 ≤ at_ - p.a by omega)
    rw [hx]; omega
   have k2 : -1000000 * lowD (lineN p n at_) (n.a - p.a) ≤ lowN (lineN p n at_) (n.a - p.a) ∧ lowN (lineN p n at_) (n.a - p.a) ≤ 1000000 * lowD (lineN p n at_) (n.a - p.a) := by
    have w1 := (low_win (-1000000) (lineN p n at_) (n.a - p.a) (by omega)).1
    have w2 := (low_win 1000000 (lineN p n at_) (n.a - p.a) (by omega)).2
    have w3 := (low_win 1000000 (lineN p n at_) (n.a - p.a) (by omega)).1
    refine ⟨w1.2 key.1, ?_⟩
    obtain ⟨z1, z2, z3, z4⟩ := hlow
    generalize lowG (lineN p n at_) (n.a - p.a) = g at *
    generalize lowN (lineN p n at_) (n.a - p.a) = NN at *
    generalize lowD (lineN p n at_) (n.a - p.a) = DD at *
    have z5 : g * NN ≤ g * (1000000 * DD) := by rw [Int.mul_left_comm, ← z1, ← z2]; exact key.2
    exact Int.le_of_mul_le_mul_left z5 (by omega)
   have hD' : lowD (lineN p n at_) (n.a - p.a) ≤ 345686400000 := hD.2
   have hN' : -2000000000000000000 ≤ lowN (lineN p n at_) (n.a - p.a) ∧ lowN (lineN p n at_) (n.a - p.a) ≤ 2000000000000000000 := hNb
   refine ⟨hN', hd1, hD', Int.le_ediv_of_mul_le (by omega) k2.1, Int.ediv_le_of_le_mul (by omega) k2.2⟩
theorem thousandths_fc (l : List Smp) (hg : Good l) (st : Bool) (at_ : Int) (ha : 0 ≤ at_ ∧ at_ ≤ 345686400000) : FC Tryz.prog 71 none [smps false l, bv st, iv at_] (fun _ r => r = .tu [iv (thV l st at_).1, bv (thV l st at_).2]) := by
 refine fc_thousandths (by simp +arith) ?_
 unfold C_thousandths
 simp (maxSteps := 1000000) (disch := omega) only [go_sem]
 refine CALL_det (valueAt_fc l st at_ hg ha) (.inl rfl) ?_
 have hbd := valSp_bd hg st ha
 unfold thV
 generalize valSp l st at_ = x at *
 obtain ⟨x, b⟩ := x
 cases b with
 | false =>
  simp only [if_pos (Or.inl rfl)]
  simp (maxSteps := 1000000) (disch := omega) only [go_sem]
 | true =>
  simp only at hbd ⊢
  have hbd := hbd trivial
  obtain ⟨hn, hd, hd2, hq1, hq2⟩ := hbd
  by_cases h2 : x.q = 2
  ·rw [if_pos (.inr h2)]
   simp (maxSteps := 1000000) (disch := omega) only [go_sem]
  ·rw [if_neg (by simp [h2])]
   obtain ⟨e1, e2, e3, e4, e5, e6⟩ := th_facts x.n x.d hn hd hd2 (by omega)
   simp (maxSteps := 1000000) (disch := omega) only [go_sem]
   refine CALL_det (down_fc x.n x.d (by omega) hd) (.inl rfl) ?_
   have e7 : (x.n % x.d) * 1000 = 1000 * (x.n % x.d) := Int.mul_comm _ _
   rw [← e7] at e4 e5
   unfold thS
   rw [← e7, ← e1]
   rw [← e1] at e4 e5 e2 e3
   have e8 : 1000 * (x.n / x.d) = x.n / x.d * 1000 := Int.mul_comm _ _
   rw [e8]
   simp (maxSteps := 1000000) (disch := omega) only [go_sem]
def prAt (f t n k : Int) : Int := min (f + (k * (t - f)).tdiv n) 345686399999
def prV (l : List Smp) (f t n k : Int) : Int × Bool := thV l false (prAt f t n k)
def prOk (l : List Smp) (f t n : Int) : Nat → Bool
 | 0 => true
 | m + 1 => prOk l f t n m && (prV l f t n m).2
def prL (l : List Smp) (f t n : Int) : Nat → List Int
 | 0 => []
 | m + 1 => if prOk l f t n (m + 1) = true then prL l f t n m ++ [(prV l f t n m).1] else prL l f t n m
theorem prL_len (l : List Smp) (f t n : Int) : ∀ m, (prL l f t n m).length ≤ m
 | 0 => Nat.le_refl _
 | m + 1 => by
  have := prL_len l f t n m
  rw [prL]
  split
  ·rw [List.length_append, List.length_singleton]; omega
  ·omega
theorem prOk_false {l : List Smp} {f t n : Int} {k : Nat} (h : (prV l f t n k).2 = false) : ∀ m, k < m → prOk l f t n m = false
 | 0, hm => by omega
 | m + 1, hm => by
  rw [prOk]
  by_cases e : k = m
  ·subst e; rw [h, Bool.and_false]
  ·rw [prOk_false h m (by omega), Bool.false_and]
theorem prAt_bd {f t n k : Int} (hw : 0 ≤ f ∧ f < t ∧ t ≤ 345686400000) (hn : 1 ≤ n ∧ n ≤ 1000) (hk : 0 ≤ k ∧ k ≤ n) : (0 ≤ k * (t - f) ∧ k * (t - f) ≤ 345686400000000) ∧ (0 ≤ (k * (t - f)).tdiv n ∧ (k * (t - f)).tdiv n ≤ 345686400000000) ∧ 0 ≤ prAt f t n k ∧ prAt f t n k ≤ 345686399999 := by
 have h1 : 0 ≤ k * (t - f) := Int.mul_nonneg hk.1 (by omega)
 have h2 : k * (t - f) ≤ 1000 * 345686400000 := Int.mul_le_mul (by omega) (by omega) (by omega) (by omega)
 have h3 := Int.tdiv_nonneg h1 (show 0 ≤ n by omega)
 have h4 := Int.tdiv_le_self n h1
 unfold prAt
 omega
def prSt (l : List Smp) (f t n k : Int) (out : List Int) : AS := ⟨tabV [(0, smps false l), (2, iv n), (4, .one (.bx 4 0)), (8, .one (.ow 8 0)), (13, iv (n + 1)), (14, iv k)], tabO [(4, [.g (.int .i64 f), .g (.int .i64 t)])], tabO [(8, ⟨0, 3, 1, out.map intC⟩)]⟩
abbrev niRow (l : List Int) : Row := ⟨0, 3, 1, l.map intC⟩
theorem prL_stop {l : List Smp} {f t n : Int} {k : Nat} (h : (prV l f t n k).2 = false) : ∀ m, k ≤ m → prL l f t n m = prL l f t n k
 | 0, hm => by rw [show k = 0 by omega]
 | m + 1, hm => by
  by_cases e : k = m + 1
  ·rw [e]
  ·rw [prL, if_neg (by rw [prOk_false h (m + 1) (by omega)]; simp), prL_stop h m (by omega)]
/-- What is handed back: a row, or nil. -/
def prH (k : Nat) (l : List Smp) (f t n : Int) : Hp := ⟨[], [(k, niRow (prL l f t n (n + 1).toNat))]⟩
def prR (k : Nat) (l : List Smp) (f t n : Int) : Val := if prOk l f t n (n + 1).toNat = true then .one (.ow k 0) else ints true []
theorem profile_fcm (l : List Smp) (hg : Good l) (f t n : Int) (hw : 0 ≤ f ∧ f < t ∧ t ≤ 345686400000) (hn : 1 ≤ n ∧ n ≤ 1000) : FCM Tryz.prog 49 ⟨[], []⟩ [smps false l, winV f t, iv n] (fun H r => H = prH 8 l f t n ∧ r = .tu [prR 8 l f t n, bv (prOk l f t n (n + 1).toNat)]) := by
 refine fcm_mprofile (K := ⟨[], [], [8]⟩) (by simp +arith) (by simp) (by simp) ?_
 unfold C_mprofile prH prR
 simp (maxSteps := 1000000) (disch := omega) only [go_sem]
 refine ⟨by omega, ?_⟩
 refine ex_loop1 (fun k => prSt l f t n k (prL l f t n k.toNat)) (fun k => 0 ≤ k ∧ k ≤ n + 1 ∧ prOk l f t n k.toNat = true) (fun k => (n + 1 - k).toNat) 0 ⟨by omega, by omega, rfl⟩ rfl ?_
 rintro k ⟨g1, g2, g3⟩
 unfold prSt
 have hpl := prL_len l f t n k.toNat
 by_cases hk : k < n + 1
 ·have e2 : (k + 1).toNat = k.toNat + 1 := by omega
  have e3 : ((k.toNat : Nat) : Int) = k := by omega
  obtain ⟨m1, m2, m3, m4⟩ := prAt_bd hw hn (show 0 ≤ k ∧ k ≤ n by omega)
  have hth := thousandths_fc l hg false (prAt f t n k) (by omega)
  have hv : thV l false (prAt f t n k) = prV l f t n k := rfl
  rw [hv] at hth
  have hd : prAt f t n k = min (f + (k * (t - f)).tdiv n) 345686399999 := rfl
  rw [hd] at hth
  cases hb : (prV l f t n k).2 with
  | false =>
   rw [prOk_false (k := k.toNat) (by rw [e3]; exact hb) _ (by omega), prL_stop (k := k.toNat) (by rw [e3]; exact hb) _ (by omega)]
   rw [hb] at hth
   simp (maxSteps := 1000000) (disch := omega) only [go_sem]
   refine CALL_det hth (.inl rfl) ?_
   simp (maxSteps := 1000000) (disch := omega) only [go_sem]
   rfl
  | true =>
   rw [hb] at hth
   simp (maxSteps := 1000000) (disch := omega) only [go_sem]
   refine CALL_det hth (.inl rfl) ?_
   simp (maxSteps := 1000000) (disch := omega) only [go_sem]
   have e5 : prOk l f t n (k.toNat + 1) = true := by rw [prOk, g3, e3, hb]; rfl
   exact ⟨k + 1, by simp only [prSt, e2, prL, if_pos e5, e3, List.map_append, List.map_cons, List.map_nil, intC_eq], ⟨by omega, by omega, by rw [e2, prOk, g3, e3, hb]; rfl⟩, by omega⟩
 ·have e : k = n + 1 := by omega
  subst e
  rw [g3]
  simp (maxSteps := 1000000) (disch := omega) only [go_sem]
def w1F (f t : Int) : Int := if f < 0 ∨ f ≥ t ∨ t > 345686400000 then 1 else 0
theorem w1F_eq (f t : Int) : fwF [(f, t)] = w1F f t := by
 unfold fwF w1F
 rw [if_neg (by simp), fwGo.eq_def]
 simp only [Bool.false_eq_true, if_false]
 rfl
theorem w1F_ok {f t : Int} (h : w1F f t = 0) : 0 ≤ f ∧ f < t ∧ t ≤ 345686400000 := by
 unfold w1F at h; split at h <;> omega
theorem bframeFault_fc (l : List Smp) (hl : l.length ≤ 4611686018427387904) (f t : Int) : FC Tryz.prog 47 none [smps false l, winV f t] (fun _ r => r = iv (orSp [serFault l, w1F f t])) := by
 refine fc_bframeFault (by simp +arith) ?_
 unfold C_bframeFault
 simp (maxSteps := 1000000) (disch := omega) only [go_sem]
 refine CALL_det (checkSeries_fc l hl) (.inl rfl) ?_
 simp (maxSteps := 1000000) (disch := omega) only [go_sem]
 refine CALL_det (checkFrames_fc [(f, t)] (by simp)) (.inl rfl) ?_
 rw [w1F_eq]
 simp (maxSteps := 1000000) (disch := omega) only [go_sem]
 refine CALL_det (first_fc false [serFault l, w1F f t] (by simp)) (.inl rfl) ?_
 simp (maxSteps := 1000000) (disch := omega) only [go_sem]
theorem profileP_fcm (l : List Smp) (hl : l.length ≤ 4611686018427387904) (f t n : Int) (h2 : serFault l = 0) (h3 : w1F f t = 0) (hn : 1 ≤ n ∧ n ≤ 1000) : FCM Tryz.prog 18 ⟨[], []⟩ [smps false l, winV f t, iv n] (fun H r => H = prH 500 l f t n ∧ r = .tu [prR 500 l f t n, bv (prOk l f t n (n + 1).toNat), iv 0]) := by
 refine fcm_mprofileP (K := ⟨[], [], [500]⟩) (by simp +arith) (by simp) (by simp) ?_
 unfold C_mprofileP
 simp (maxSteps := 1000000) (disch := omega) only [go_sem]
 refine CALL_det (bframeFault_fc l hl f t) (.inl rfl) ?_
 rw [h2, h3, show orSp [0, 0] = 0 from rfl]
 simp (maxSteps := 1000000) (disch := omega) only [go_sem]
 refine CALL_det (out_fc _ _ _) (.inl rfl) ?_
 rw [decide_eq_false (by omega)]
 simp (maxSteps := 1000000) (disch := omega) only [go_sem]
 have hp := profile_fcm l (good_of h2) f t n (w1F_ok h3) hn
 unfold prH prR at hp ⊢
 cases hk : prOk l f t n (n + 1).toNat with
 | true =>
  rw [hk, if_pos rfl] at hp
  refine ⟨rfl, CALLM_rnE ⟨[], [(500, niRow (prL l f t n (n + 1).toNat))]⟩ (.tu [.one (.ow 500 0), bv true]) (fun k => k) (swp 8 500) (fun _ => rfl) (swp_swp 8 500) hp (by simp) rfl rfl rfl rfl ⟨rfl, rfl⟩ ?_⟩
  simp (maxSteps := 1000000) (disch := omega) only [go_sem]
 | false =>
  rw [hk, if_neg (by simp)] at hp
  refine ⟨rfl, CALLM_rnE ⟨[], [(500, niRow (prL l f t n (n + 1).toNat))]⟩ (.tu [ints true [], bv false]) (fun k => k) (swp 8 500) (fun _ => rfl) (swp_swp 8 500) hp (by simp) rfl rfl rfl rfl ⟨rfl, rfl⟩ ?_⟩
  simp (maxSteps := 1000000) (disch := omega) only [go_sem]
  rfl
end Go.Proofs.YtjamjffppcjeiaaGreatDoor

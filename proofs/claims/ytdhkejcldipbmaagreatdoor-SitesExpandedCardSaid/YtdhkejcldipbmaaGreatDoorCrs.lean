
/-
 Crossings of a limit: Crossings and the reference's answer are one.
 Values at moments and at equal distances: the program's answers and the reference's are one; so the statement ValuesBetween holds.
 Crossings of a limit, continued: the two functions themselves.
 slices.DeleteFunc over pieces: the row that is handed over keeps what is not deleted.
 Reconstruct: what lies between archived samples.
 Reports: exceptions, doors, Report and the reference's: their answers are one.
-/
import Derived.Test.YtdhkejcldipbmaaGreatDoorBas
namespace Go.Proofs.YtdhkejcldipbmaaGreatDoor
open Go Go.Ai
set_option linter.unusedSimpArgs false
set_option linter.unusedVariables false
set_option maxHeartbeats 4000000
def C_limitFault : AC := (.seq (.reg false [gI 2 (.mv (oI 0))] (kP [0] [] []))
 (.seq (.reg false [gM 3 0,gI 4 (.call (.f 175) [(.t 3),(oI (-1000000)),(oI 1000000)]),gM 2 4] (kP [2] [] []))
 .ret))
theorem fc_limitFault : FcT Tryz.prog 129 Tryz.f129 C_limitFault [.t 2] := fc_mk [aN [0] [] [],aN [2] [] []] Tryz.func129 (by kernel_rfl)
/-- On which side of a limit a value is. -/
def sd (L v : Int) : Int := if v < L then -1 else if v > L then 1 else 0
theorem sd_cases (L v : Int) : (v < L ∧ sd L v = -1) ∨ (v > L ∧ sd L v = 1) ∨ (v = L ∧ sd L v = 0) := by
 unfold sd; split
 ·left; exact ⟨by omega, rfl⟩
 ·split
  ·right; left; exact ⟨by omega, rfl⟩
  ·right; right; exact ⟨by omega, rfl⟩
def frC (x : Int × Int) : List Cel := [.g (.int .i64 x.1), .g (.int .i64 x.2)]
theorem frC_eq (x : Int × Int) : frC x = [.g (.int .i64 x.1), .g (.int .i64 x.2)] := (rfl)
theorem frE_fr (l : List (Int × Int)) : frE (l.map frC) = true := frE_map (fun _ => rfl) l
theorem datE_fr (l : List (Int × Int)) : datE (l.map frC) = l.map frC := datE_map (fun _ => rfl) l
theorem tofE_fr (l : List (Int × Int)) : tofE (l.map frC) = l.map frC := tofE_map (fun _ => rfl) l
attribute [go_sem] frC_eq frE_fr datE_fr tofE_fr
abbrev frsV (fr : Bool) (l : List (Int × Int)) : Val := .one (.sl fr 2 (l.map frC))
/-- The crossing between two samples of which the second one is on the other side. -/
def crN (L : Int) (a b : Smp) : Int := a.a * max (b.v - a.v) (a.v - b.v) + (b.a - a.a) * max (L - a.v) (a.v - L)
def crD (a b : Smp) : Int := max (b.v - a.v) (a.v - b.v)
def crP (L : Int) (a : Smp) (nx : Option Int) (b : Smp) : Int × Int :=
 match nx with
 | some t => (t, 1)
 | none => (crN L a b, crD a b)
def emit (L f t : Int) (a : Smp) (nx : Option Int) (b : Smp) : List (Int × Int) :=
 if a.q ≠ 2 ∧ b.q ≠ 2 ∧ sd L a.v * sd L b.v < 0 then (if f * (crP L a nx b).2 ≤ (crP L a nx b).1 ∧ (crP L a nx b).1 < t * (crP L a nx b).2 then [(lowN (crP L a nx b).1 (crP L a nx b).2, lowD (crP L a nx b).1 (crP L a nx b).2)] else []) else []
def emitO (L f t : Int) : Option (Smp × Option Int) → Smp → List (Int × Int)
 | none, _ => []
 | some p, s => emit L f t p.1 p.2 s
def crGo (L f t : Int) : Option (Smp × Option Int) → List Smp → List (Int × Int)
 | _, [] => []
 | st, s :: r => if s.q = 2 then crGo L f t none r else if sd L s.v ≠ 0 then emitO L f t st s ++ crGo L f t (some (s, none)) r
  else crGo L f t (st.map fun p => (p.1, some (p.2.getD s.a))) r
def inn (L f t : Int) (a : Smp) : Option Int → List Smp → List (Int × Int)
 | _, [] => []
 | nx, b :: r => if b.q ≠ 2 ∧ b.v = L then inn L f t a (some (nx.getD b.a)) r else emit L f t a nx b
def refGo (L f t : Int) : List Smp → List (Int × Int)
 | [] => []
 | a :: r => inn L f t a none r ++ refGo L f t r
theorem inn_nil {L f t : Int} {a : Smp} (h : a.q = 2 ∨ sd L a.v = 0) : ∀ (l : List Smp) (nx : Option Int), inn L f t a nx l = []
 | [], nx => rfl
 | b :: r, nx => by
  rw [inn, inn_nil h r]
  split
  ·rfl
  ·unfold emit; rw [if_neg]
   rintro ⟨h1, h2, h3⟩
   rcases h with h | h
   ·exact h1 h
   ·rw [h, Int.zero_mul] at h3; omega
theorem crGo_eq (L f t : Int) : ∀ (l : List Smp) (st : Option (Smp × Option Int)), (∀ p, st = some p → p.1.q ≠ 2 ∧ sd L p.1.v ≠ 0) → crGo L f t st l = (match st with | none => [] | some p => inn L f t p.1 p.2 l) ++ refGo L f t l
 | [], st, h => by cases st <;> rfl
 | s :: r, st, h => by
  rw [crGo, refGo]
  by_cases h1 : s.q = 2
  ·rw [if_pos h1, crGo_eq L f t r none (fun p hp => by cases hp), inn_nil (.inl h1)]
   cases st with
   | none => rfl
   | some p =>
    have e : emit L f t p.1 p.2 s = [] := by unfold emit; rw [if_neg]; rintro ⟨_, h2, _⟩; exact h2 h1
    have e2 : inn L f t p.1 p.2 (s :: r) = [] := by rw [inn, if_neg (fun h2 => h2.1 h1), e]
    simp only [e2, List.nil_append]
  ·rw [if_neg h1]
   by_cases h2 : sd L s.v ≠ 0
   ·rw [if_pos h2, crGo_eq L f t r (some (s, none)) (fun p hp => by injection hp with hp; subst hp; exact ⟨h1, h2⟩)]
    cases st with
    | none => rfl
    | some p =>
     have e2 : inn L f t p.1 p.2 (s :: r) = emit L f t p.1 p.2 s := by
      rw [inn, if_neg]; rintro ⟨_, h3⟩; apply h2; unfold sd; rw [if_neg (by omega), if_neg (by omega)]
     simp only [e2, emitO]
   ·rw [if_neg h2, inn_nil (.inr (by omega))]
    have h3 : s.v = L := by rcases sd_cases L s.v with h | h | h <;> omega
    cases st with
    | none => rw [Option.map_none, crGo_eq L f t r none (fun p hp => by cases hp)]; rfl
    | some p =>
     rw [Option.map_some, crGo_eq L f t r _ (fun q hq => by injection hq with hq; subst hq; exact h p rfl)]
     have e2 : inn L f t p.1 p.2 (s :: r) = inn L f t p.1 (some (p.2.getD s.a)) r := by rw [inn, if_pos ⟨h1, h3⟩]
     simp only [e2, List.nil_append]
theorem cr_ref (L f t : Int) (l : List Smp) : crGo L f t none l = refGo L f t l := crGo_eq L f t l none (fun p hp => by cases hp)
/-- What lies behind sample number i, if k is further on. -/
def nxt (l : List Smp) (i k : Int) : Option Int := if k > i + 1 then some (l.getD (i + 1).toNat default).a else none
def opp (L : Int) (a b : Smp) : Prop := (a.v < L ∧ L < b.v) ∨ (L < a.v ∧ b.v < L)
theorem opp_of {L : Int} {a b : Smp} (h : sd L a.v * sd L b.v < 0) : opp L a b := by
 unfold opp
 rcases sd_cases L a.v with ⟨h1, e1⟩ | ⟨h1, e1⟩ | ⟨h1, e1⟩ <;> rcases sd_cases L b.v with ⟨h2, e2⟩ | ⟨h2, e2⟩ | ⟨h2, e2⟩ <;> rw [e1, e2] at h <;> omega
theorem crN_bd {L : Int} {a b : Smp} (ha : okSmp a) (hb : okSmp b) (hL : -1000000 ≤ L ∧ L ≤ 1000000) (hlt : a.a < b.a) (ho : opp L a b) :
  (0 ≤ a.a * crD a b ∧ a.a * crD a b ≤ 700000000000000000) ∧ (0 ≤ (b.a - a.a) * max (L - a.v) (a.v - L) ∧ (b.a - a.a) * max (L - a.v) (a.v - L) ≤ 700000000000000000) ∧ 1 ≤ crD a b ∧ crD a b ≤ 2000000 := by
 obtain ⟨a1, a2, a3, a4, a5, a6⟩ := ha
 obtain ⟨b1, b2, b3, b4, b5, b6⟩ := hb
 have hd : 1 ≤ crD a b ∧ crD a b ≤ 2000000 := by unfold crD; unfold opp at ho; omega
 have e1 := mul_bd (a := a.a) (b := crD a b) (A := 345686400000) (B := 2000000) ⟨by omega, by omega⟩ ⟨by omega, by omega⟩
 have e2 := mul_bd (a := b.a - a.a) (b := max (L - a.v) (a.v - L)) (A := 345686400000) (B := 2000000) ⟨by omega, by omega⟩ ⟨by omega, by omega⟩
 have e3 : 0 ≤ a.a * crD a b := Int.mul_nonneg a1 (by omega)
 have e4 : 0 ≤ (b.a - a.a) * max (L - a.v) (a.v - L) := Int.mul_nonneg (by omega) (by omega)
 omega
end Go.Proofs.YtdhkejcldipbmaaGreatDoor
namespace Go.Proofs.YtdhkejcldipbmaaGreatDoor
open Go Go.Ai
set_option linter.unusedSimpArgs false
set_option linter.unusedVariables false
set_option maxHeartbeats 4000000
def C_orE : AC := (.seq (.reg false [gI 2 (.mv (oI 0))] (kP [0] [] []))
 (.seq (.reg false [gI 3 (.mv (oI 0))] (kP [0,3] [] []))
 (.seq (.seq (.reg false [gM 6 0,gI 7 (.len (.t 6)),gI 8 (.mv (oI 0))] (kP [3,6,7,8] [] []))
 (.block 0 (.loop (.seq (.reg false [gI 9 (.bin .lss (.t 8) (.t 7))] (kP [3,6,7,8,9] [] []))
 (.seq (.cond (.t 9)
 .skip
 (.exit 0))
 (.seq (.block 1 (.seq (.reg false [gI 10 (.iadr 1 (.t 6) (.t 8)),gI 11 (.load false 1 (.t 10)),gM 5 11] (kP [3,5,6,7,8] [] []))
 (.seq (.reg false [gM 12 5,gM 13 3,gI 14 (.bin .neq (.t 12) (.t 13))] (kP [3,5,6,7,8,14] [] []))
 (.cond (.t 14)
 (.seq (.reg false [gM 15 5,gM 2 15] (kP [2] [] []))
 .ret)
 .skip))))
 (.reg false [gI 16 (.bin .add (.t 8) (oI 1)),gM 8 16] (kP [3,6,7,8] [] []))))))))
 (.seq (.reg false [gM 17 3,gM 2 17] (kP [2] [] []))
 .ret))))
theorem fc_orE : FcT Tryz.prog 38 Tryz.f38 C_orE [.t 2] := fc_mk [aN [0] [] [],aN [0,3] [] [],aN [3,6,7,8] [] [],aN [3,6,7,8,9] [] [],aN [3,5,6,7,8] [] [],aN [3,5,6,7,8,14] [] [],aN [2] [] [],aN [3,6,7,8] [] [],aN [2] [] []] Tryz.func38 (by kernel_rfl)
def vaSp (l : List Smp) (st : Bool) (at_ : Int) : Pt × Bool × Int :=
 if serFault l ≠ 0 then (ptZ, false, serFault l) else if momFault at_ ≠ 0 then (ptZ, false, 1) else ((valSp l st at_).1, (valSp l st at_).2, 0)
theorem momFault_ok {n : Int} (h : momFault n = 0) : 0 ≤ n ∧ n ≤ 345686399999 := by
 unfold momFault at h; split at h <;> omega
theorem momFault_01 (n : Int) : momFault n = 0 ∨ momFault n = 1 := by
 unfold momFault; split <;> omega
def ptsGo (l : List Smp) (st : Bool) (ev to : Int) : Nat → Int → List Pt
 | 0, _ => []
 | n + 1, a => if a < to then (if (valSp l st a).2 then [(valSp l st a).1] else []) ++ ptsGo l st ev to n (a + ev) else []
theorem ptsGo_fuel (l : List Smp) (st : Bool) (ev to : Int) (he : 1 ≤ ev) : ∀ (n m : Nat) (a : Int), (to - a).toNat ≤ n → (to - a).toNat ≤ m → ptsGo l st ev to n a = ptsGo l st ev to m a
 | 0, 0, _, _, _ => rfl
 | 0, m + 1, a, h, _ => by rw [ptsGo, ptsGo, if_neg (by omega)]
 | n + 1, 0, a, _, h => by rw [ptsGo, ptsGo, if_neg (by omega)]
 | n + 1, m + 1, a, h, h' => by
  rw [ptsGo, ptsGo]
  by_cases ha : a < to
  ·rw [if_pos ha, if_pos ha, ptsGo_fuel l st ev to he n m (a + ev) (by omega) (by omega)]
  ·rw [if_neg ha, if_neg ha]
/-- The values at a window's equal distances. -/
def pts (l : List Smp) (st : Bool) (f t ev : Int) : List Pt := ptsGo l st ev t (t - f).toNat f
theorem pts_step (l : List Smp) (st : Bool) (ev to a : Int) (he : 1 ≤ ev) (h : a < to) : pts l st a to ev = (if (valSp l st a).2 then [(valSp l st a).1] else []) ++ pts l st (a + ev) to ev := by
 unfold pts
 obtain ⟨n, hn⟩ : ∃ n, (to - a).toNat = n + 1 := ⟨(to - a).toNat - 1, by omega⟩
 rw [hn, ptsGo, if_pos h]
 congr 1
 exact ptsGo_fuel l st ev to he _ _ _ (by omega) (by omega)
theorem pts_end (l : List Smp) (st : Bool) (ev to a : Int) (h : ¬ a < to) : pts l st a to ev = [] := by
 unfold pts
 have : (to - a).toNat = 0 := by omega
 rw [this, ptsGo]
abbrev ptsV (fr : Bool) (l : List Pt) : Val := .one (.sl fr 4 (l.map ptC))
def ptsFault (l : List Smp) (f t ev : Int) : Int := if bothFault l f t ≠ 0 then bothFault l f t else evFault f t ev
theorem bothFault_ok {l : List Smp} {f t : Int} (h : bothFault l f t = 0) : serFault l = 0 ∧ winFault f t = 0 := by
 unfold bothFault at h; split at h <;> omega
theorem winFault_ok {f t : Int} (h : winFault f t = 0) : 0 ≤ f ∧ f ≤ t ∧ t ≤ 345686400000 := by
 unfold winFault at h; split at h <;> omega
theorem evFault_ok {f t e : Int} (h : evFault f t e = 0) : 1 ≤ e ∧ e ≤ 86400000 := by
 unfold evFault at h; split at h <;> omega
def orSp : List Int → Int
 | [] => 0
 | x :: l => if x ≠ 0 then x else orSp l
def orSt (fr : Bool) (l : List Int) (i : Int) : AS := ⟨tabV [(3, iv 0), (6, ints fr l), (7, iv l.length), (8, iv i)], tabO [], tabO []⟩
theorem orE_fc (fr : Bool) (l : List Int) (hl : l.length ≤ 4611686018427387904) : FC Tryz.prog 38 none [ints fr l] (fun _ r => r = iv (orSp l)) := by
 refine fc_orE (by simp +arith) ?_
 unfold C_orE
 simp (maxSteps := 1000000) (disch := omega) only [go_sem]
 refine ex_loopI (orSt fr l) (fun i => 0 ≤ i ∧ i ≤ l.length ∧ orSp (l.drop i.toNat) = orSp l) (fun i => (l.length - i).toNat) 0 ⟨by omega, by omega, rfl⟩ rfl ?_
 rintro i ⟨g1, g2, g3⟩
 unfold orSt
 by_cases hi : i < l.length
 ·rw [drop_cons l i.toNat (by omega), orSp] at g3
  have e2 : (i + 1).toNat = i.toNat + 1 := by omega
  simp (maxSteps := 1000000) (disch := omega) only [go_sem]
  refine ⟨fun h => ?_, fun h => ⟨i + 1, ⟨by omega, by omega, ?_⟩, rfl, by omega⟩⟩
  ·rw [if_pos h] at g3; rw [g3]
  ·rw [if_neg h] at g3; rw [e2]; exact g3
 ·simp (maxSteps := 1000000) (disch := omega) only [go_sem]
  rw [← g3, List.drop_eq_nil_of_le (by omega)]
  rfl
def eqSt (fr fr' : Bool) (l : List Pt) (i : Int) : AS := ⟨tabV [(0, ptsV fr l), (1, ptsV fr' l), (12, iv l.length), (13, iv i)], tabO [], tabO []⟩
theorem vaSp_ok {l : List Smp} {at_ : Int} (st : Bool) (h : orSp [serFault l, momFault at_] = 0) : vaSp l st at_ = ((valSp l st at_).1, (valSp l st at_).2, 0) := by
 simp only [orSp] at h
 have h1 : serFault l = 0 := by by_cases e : serFault l = 0; exact e; rw [if_pos e] at h; exact h
 have h2 : momFault at_ = 0 := by rw [if_neg (by omega)] at h; by_cases e : momFault at_ = 0; exact e; rw [if_pos e] at h; exact h
 simp [vaSp, h1, h2]
theorem vaSp_no {l : List Smp} {at_ : Int} (st : Bool) (h : ¬ orSp [serFault l, momFault at_] = 0) : vaSp l st at_ = (ptZ, false, orSp [serFault l, momFault at_]) := by
 simp only [orSp] at h ⊢
 by_cases e : serFault l = 0
 ·rw [if_neg (by omega)] at h ⊢
  have h2 : momFault at_ ≠ 0 := fun e2 => by rw [e2] at h; simp at h
  rw [if_pos h2]
  have := momFault_01 at_
  have h3 : momFault at_ = 1 := by omega
  simp [vaSp, e, h3]
 ·simp [vaSp, e]
theorem one_ok {l : List Smp} {at_ : Int} (h : orSp [serFault l, momFault at_] = 0) : Good l ∧ 0 ≤ at_ ∧ at_ ≤ 345686399999 := by
 simp only [orSp] at h
 have h1 : serFault l = 0 := by by_cases e : serFault l = 0; exact e; rw [if_pos e] at h; exact h
 have h2 : momFault at_ = 0 := by rw [if_neg (by omega)] at h; by_cases e : momFault at_ = 0; exact e; rw [if_pos e] at h; exact h
 exact ⟨good_of h1, momFault_ok h2⟩
theorem ptsGo_len (l : List Smp) (st : Bool) (ev to : Int) : ∀ (n : Nat) (a : Int), (ptsGo l st ev to n a).length ≤ n
 | 0, _ => by simp [ptsGo]
 | n + 1, a => by
  rw [ptsGo]
  have := ptsGo_len l st ev to n (a + ev)
  split
  ·cases (valSp l st a).2 <;> simp <;> omega
  ·simp
theorem pts_len (l : List Smp) (st : Bool) (f t ev : Int) (_ : 1 ≤ ev) : (pts l st f t ev).length ≤ (t - f).toNat := ptsGo_len l st ev t _ f
theorem bothFault_or (l : List Smp) (f t : Int) : orSp [serFault l, winFault f t] = bothFault l f t := by
 simp only [orSp, bothFault]; (repeat' split) <;> omega
end Go.Proofs.YtdhkejcldipbmaaGreatDoor
namespace Go.Proofs.YtdhkejcldipbmaaGreatDoor
open Go Go.Ai
set_option linter.unusedSimpArgs false
set_option linter.unusedVariables false
set_option maxHeartbeats 4000000
theorem lowG_dvd (n d : Int) (hd : 1 ≤ d) : lowG n d ∣ n ∧ lowG n d ∣ d := by
 unfold lowG
 have h1 := Nat.gcd_dvd_left (max n (0 - n)).toNat d.toNat
 have h2 := Nat.gcd_dvd_right (max n (0 - n)).toNat d.toNat
 have h3 := Int.natCast_dvd_natCast.2 h1
 have h4 := Int.natCast_dvd_natCast.2 h2
 have e1 : ((max n (0 - n)).toNat : Int) = max n (0 - n) := by omega
 have e2 : (d.toNat : Int) = d := by omega
 rw [e1] at h3; rw [e2] at h4
 refine ⟨?_, h4⟩
 by_cases h : 0 ≤ n
 ·have e3 : max n (0 - n) = n := by omega
  rw [e3] at h3 ⊢; exact h3
 ·have e3 : max n (0 - n) = -n := by omega
  rw [e3] at h3 ⊢; exact Int.dvd_neg.1 h3
theorem low_eq (n d : Int) (hd : 1 ≤ d) : n = lowG n d * lowN n d ∧ d = lowG n d * lowD n d ∧ 1 ≤ lowG n d ∧ 1 ≤ lowD n d := by
 obtain ⟨h1, h2⟩ := lowG_dvd n d hd
 have h3 := lowG_pos n d hd
 have e1 : lowG n d * lowN n d = n := by unfold lowN; exact Int.mul_tdiv_cancel' h1
 have e2 : lowG n d * lowD n d = d := by unfold lowD; exact Int.mul_tdiv_cancel' h2
 refine ⟨e1.symm, e2.symm, h3, ?_⟩
 rcases Int.lt_or_le 0 (lowD n d) with h | h
 ·omega
 ·have := Int.mul_nonpos_of_nonneg_of_nonpos (show 0 ≤ lowG n d by omega) h
  omega
theorem lowN_one (n : Int) : lowN n 1 = n := by
 have h : lowG n 1 = 1 := by unfold lowG; simp
 unfold lowN; rw [h, Int.tdiv_one]
theorem lowD_one (n : Int) : lowD n 1 = 1 := by
 have h : lowG n 1 = 1 := by unfold lowG; simp
 unfold lowD; rw [h, Int.tdiv_one]
theorem low_win (f n d : Int) (hd : 1 ≤ d) : (f * lowD n d ≤ lowN n d ↔ f * d ≤ n) ∧ (lowN n d < f * lowD n d ↔ n < f * d) := by
 obtain ⟨h1, h2, h3, h4⟩ := low_eq n d hd
 generalize lowG n d = g at *
 generalize lowN n d = N at *
 generalize lowD n d = D at *
 subst h1; subst h2
 have e : f * (g * D) = g * (f * D) := by rw [Int.mul_left_comm]
 rw [e]
 exact ⟨(Int.mul_le_mul_left (by omega)).symm, (Int.mul_lt_mul_left (by omega)).symm⟩
theorem getD_map_at {α β : Type} [Inhabited α] (C : α → β) (l : List α) (i : Int) (d : β) (h0 : 0 ≤ i) (h : i < l.length) : (l.map C).getD i.toNat d = C (l.getD i.toNat default) := getD_map_in C l i.toNat d (by omega)
def stOf (l : List Smp) (from_ i : Int) : Option (Smp × Option Int) := if from_ < 0 then none else some (l.getD from_.toNat default, nxt l from_ i)
def limF (L : Int) : Int := if -1000000 ≤ L ∧ L ≤ 1000000 then 0 else 1
theorem limitFault_fc (L : Int) : FC Tryz.prog 129 none [iv L] (fun _ r => r = iv (limF L)) := by
 refine fc_limitFault (by simp +arith) ?_
 unfold C_limitFault
 simp (maxSteps := 1000000) (disch := omega) only [go_sem]
 refine CALL_det (spanFault1_fc _ _ _) (.inl rfl) ?_
 simp (maxSteps := 1000000) (disch := omega) only [go_sem]
 (repeat' (first | apply And.intro | intro _)) <;> first | rfl | omega | exact iv_congr (by first | omega | ((try simp only [limF]); (repeat' split) <;> (first | omega | (simp_all; done) | (simp_all; omega)))) | exact bv_dec (by first | omega | ((try simp only [limF]); (repeat' split) <;> omega)) | exact bv_ndec (by first | omega | ((try simp only [limF]); (repeat' split) <;> omega)) | exact bv_f (by first | omega | ((try simp only [limF]); (repeat' split) <;> omega)) | exact bv_t (by first | omega | ((try simp only [limF]); (repeat' split) <;> omega))
def crsSp (l : List Smp) (f t L : Int) : List (Int × Int) × Int :=
 if bothFault l f t ≠ 0 then ([], bothFault l f t) else if limF L ≠ 0 then ([], limF L) else (crGo L f t none l, 0)
end Go.Proofs.YtdhkejcldipbmaaGreatDoor
namespace Go.Proofs.YtdhkejcldipbmaaGreatDoor
open Go Go.Ai
set_option linter.unusedSimpArgs false
set_option linter.unusedVariables false
set_option maxHeartbeats 4000000
section
variable {P : Program} {Q : AX → AS → Prop} {s : AS} {k : List KI} {kp : Option Keep} {l : List GI}
/-- A contract that speaks of other keys, with what comes of it spelled out. -/
theorem CALLM_rnE {f : FuncId} {H0 X0 H : Hp} {Y0 : Val} {args0 vargs : List Val} {bks rks obs ors : List Nat} {d : Option Nat} (X : Hp) (Y : Val) (p q : Nat → Nat) (hp : ∀ k, p (p k) = k) (hq : ∀ k, q (q k) = k) (hf : FCM P f H0 args0 (fun H' r' => H' = X0 ∧ r' = Y0)) (hna : ∀ x ∈ args0, ∀ xs, x ≠ .tu xs)
  (hH : H0.rn p q = H) (ha : args0.map (rnV p q) = vargs) (hX : X0.rn p q = X) (hY : rnV p q Y0 = Y) (hk : X.bs.map (·.1) = obs ∧ X.rs.map (·.1) = ors) (h : rg P l kp k Q ((s.after ⟨bks, rks, obs, ors, []⟩ X).put d (s.backV ⟨bks, rks, obs, ors, []⟩ Y))) (hb : H0.bs.all (fun x => bldK x.1 == bldK (p x.1)) = true := by rfl) : CALLM P f H vargs ⟨bks, rks, obs, ors, []⟩ d l kp k Q s := by
 subst hX; subst hY
 exact CALLM_rn p q hp hq hf hna hH ha hk h hb
theorem CALLM_rnES {f : FuncId} {S0 : List Nat} {H0 X0 H : Hp} {Y0 : Val} {args0 vargs : List Val} {m : CAnn} {d : Option Nat} (X : Hp) (Y : Val) (p q : Nat → Nat) (hp : ∀ k, p (p k) = k) (hq : ∀ k, q (q k) = k) (hf : FCMS P f S0 H0 args0 (fun H' r' => H' = X0 ∧ r' = Y0)) (hna : ∀ x ∈ args0, ∀ xs, x ≠ .tu xs)
  (hS : S0.map q = m.sts) (hH : H0.rn p q = H) (ha : args0.map (rnV p q) = vargs) (hX : X0.rn p q = X) (hY : rnV p q Y0 = Y) (hk : X.bs.map (·.1) = m.obs ∧ X.rs.map (·.1) = m.ors) (h : rg P l kp k Q ((s.after m X).put d (s.backV m Y))) (hb : H0.bs.all (fun x => bldK x.1 == bldK (p x.1)) = true := by rfl) : CALLM P f H vargs m d l kp k Q s := by
 subst hX; subst hY
 exact CALLM_rnS p q hp hq hf hna hS hH ha hk h hb
end
def idxG {α : Type} (p : α → Bool) : Int → List α → Int
 | _, [] => -1
 | i, x :: l => if p x = true then i else idxG p (i + 1) l
theorem idxG_spec {α : Type} [Inhabited α] (p : α → Bool) : ∀ (l : List α) (i : Int), 0 ≤ i → (idxG p i l = -1 ∧ ∀ x ∈ l, p x = false) ∨ (i ≤ idxG p i l ∧ idxG p i l < i + l.length ∧ p (l.getD (idxG p i l - i).toNat default) = true ∧ ∀ j : Nat, (j : Int) < idxG p i l - i → p (l.getD j default) = false)
 | [], i, h => .inl ⟨rfl, by simp⟩
 | x :: l, i, h => by
  rw [idxG]
  cases hx : p x with
  | true => rw [if_pos rfl]; exact .inr ⟨by omega, by simp; omega, by simp [hx], fun j hj => by omega⟩
  | false =>
   rw [if_neg (by simp)]
   rcases idxG_spec p l (i + 1) (by omega) with ⟨h1, h2⟩ | ⟨h1, h2, h3, h4⟩
   ·exact .inl ⟨h1, fun y hy => by simp only [List.mem_cons] at hy; rcases hy with rfl | hy; exact hx; exact h2 y hy⟩
   ·have e : (idxG p (i + 1) l - i).toNat = (idxG p (i + 1) l - (i + 1)).toNat + 1 := by omega
    refine .inr ⟨by omega, by rw [List.length_cons]; omega, by rw [e, List.getD_cons_succ]; exact h3, fun j hj => ?_⟩
    cases j with
    | zero => simpa using hx
    | succ j => rw [List.getD_cons_succ]; exact h4 j (by omega)
theorem filter_none {α : Type} {p : α → Bool} {l : List α} (h : ∀ x ∈ l, p x = false) : l.filter (fun x => !p x) = l := List.filter_eq_self.2 (fun x hx => by rw [h x hx]; rfl)
/-- How far the deletion is: j are kept of the first k. -/
structure DelI {α : Type} (p : α → Bool) (l : List α) (j k : Int) (cur : List α) : Prop where
 j0 : 0 ≤ j
 jk : j < k
 kn : k ≤ l.length
 len : cur.length = l.length
 tk : cur.take j.toNat = (l.take k.toNat).filter fun x => !p x
 dr : cur.drop k.toNat = l.drop k.toNat
theorem take_snoc' {α : Type} [Inhabited α] (l : List α) (k : Nat) (h : k < l.length) : l.take (k + 1) = l.take k ++ [l.getD k default] := by
 rw [List.take_succ_eq_append_getElem h]; simp [List.getD_eq_getElem?_getD, h]
theorem DelI.start {α : Type} [Inhabited α] {p : α → Bool} {l : List α} {i : Int} (h0 : 0 ≤ i) (h1 : i < l.length) (h2 : p (l.getD i.toNat default) = true) (h3 : ∀ j : Nat, (j : Int) < i → p (l.getD j default) = false) : DelI p l i (i + 1) l := by
 refine ⟨h0, by omega, by omega, rfl, ?_, rfl⟩
 have e : (i + 1).toNat = i.toNat + 1 := by omega
 rw [e, take_snoc' l _ (by omega), List.filter_append]
 have h4 : (l.take i.toNat).filter (fun x => !p x) = l.take i.toNat := filter_none (fun x hx => by
  obtain ⟨j, hj, rfl⟩ := List.mem_iff_getElem.1 hx
  rw [List.length_take] at hj
  have := h3 j (by omega)
  rw [List.getElem_take]
  simpa [List.getD_eq_getElem?_getD, show j < l.length by omega] using this)
 rw [h4, List.filter_cons, if_neg (by rw [h2]; simp), List.filter_nil, List.append_nil]
theorem DelI.at {α : Type} [Inhabited α] {p : α → Bool} {l cur : List α} {j k : Int} (h : DelI p l j k cur) (hk : k < l.length) : cur.getD k.toNat default = l.getD k.toNat default := by
 have h1 := h.dr
 have h2 := h.len
 have h3 := h.j0
 have h4 := h.jk
 rw [List.drop_eq_getElem_cons (show k.toNat < cur.length by omega), List.drop_eq_getElem_cons (show k.toNat < l.length by omega)] at h1
 injection h1 with h1 _
 simp [List.getD_eq_getElem?_getD, show k.toNat < cur.length by omega, show k.toNat < l.length by omega, h1]
theorem DelI.drop1 {α : Type} {p : α → Bool} {l cur : List α} {j k : Int} (h : DelI p l j k cur) : cur.drop (k + 1).toNat = l.drop (k + 1).toNat := by
 have h3 := h.j0
 have h4 := h.jk
 have e : (k + 1).toNat = k.toNat + 1 := by omega
 rw [e, ← List.drop_drop, ← List.drop_drop, h.dr]
theorem DelI.del {α : Type} [Inhabited α] {p : α → Bool} {l cur : List α} {j k : Int} (h : DelI p l j k cur) (hk : k < l.length) (hp : p (l.getD k.toNat default) = true) : DelI p l j (k + 1) cur := by
 have h3 := h.j0
 have h4 := h.jk
 refine ⟨h3, by omega, by omega, h.len, ?_, h.drop1⟩
 have e : (k + 1).toNat = k.toNat + 1 := by omega
 rw [e, take_snoc' l _ (by omega), List.filter_append, h.tk, List.filter_cons, if_neg (by rw [hp]; simp), List.filter_nil, List.append_nil]
theorem DelI.put {α : Type} [Inhabited α] {p : α → Bool} {l cur : List α} {j k : Int} (h : DelI p l j k cur) (hk : k < l.length) (hp : p (l.getD k.toNat default) = false) : DelI p l (j + 1) (k + 1) (cur.set j.toNat (l.getD k.toNat default)) := by
 have h2 := h.len
 have h3 := h.j0
 have h4 := h.jk
 refine ⟨by omega, by omega, by omega, by rw [List.length_set]; exact h2, ?_, ?_⟩
 ·have e : (k + 1).toNat = k.toNat + 1 := by omega
  have e2 : (j + 1).toNat = j.toNat + 1 := by omega
  have e3 : (cur.set j.toNat (l.getD k.toNat default)).getD j.toNat default = l.getD k.toNat default := by
   generalize l.getD k.toNat default = x
   simp [List.getD_eq_getElem?_getD, show j.toNat < cur.length by omega]
  rw [e, e2, take_snoc' l _ (by omega), List.filter_append, take_snoc' _ _ (by rw [List.length_set]; omega), List.take_set_of_le (Nat.le_refl _), h.tk, e3, List.filter_cons, if_pos (by rw [hp]; rfl), List.filter_nil]
 ·rw [List.drop_set_of_lt (by omega)]; exact h.drop1
theorem DelI.fin {α : Type} {p : α → Bool} {l cur : List α} {j k : Int} (h : DelI p l j k cur) (hk : ¬ k < l.length) : cur.take j.toNat = l.filter fun x => !p x := by
 have h5 := h.kn
 rw [h.tk, List.take_of_length_le (by omega)]
/-- A piece: its window, value and quality. -/
structure Pc where
 f : Int
 t : Int
 v : Int
 q : Int
 deriving Inhabited
def pcC (x : Pc) : List Cel := [.g (.int .i64 x.f), .g (.int .i64 x.t), .g (.int .i64 x.v), .g (.int .i64 x.q)]
theorem pcC_eq (x : Pc) : pcC x = [.g (.int .i64 x.f), .g (.int .i64 x.t), .g (.int .i64 x.v), .g (.int .i64 x.q)] := (rfl)
theorem frE_pc (l : List Pc) : frE (l.map pcC) = true := frE_map (fun _ => rfl) l
theorem datE_pc (l : List Pc) : datE (l.map pcC) = l.map pcC := datE_map (fun _ => rfl) l
theorem tofE_pc (l : List Pc) : tofE (l.map pcC) = l.map pcC := tofE_map (fun _ => rfl) l
attribute [go_sem] pcC_eq frE_pc datE_pc tofE_pc
abbrev pcsV (fr : Bool) (l : List Pc) : Val := .one (.sl fr 4 (l.map pcC))
def ix4St (cl : FuncId) (l : List Pc) (i : Int) : AS := ⟨tabV [(0, pcsV false l), (1, .one (.fn cl [])), (7, iv l.length), (8, iv i)], tabO [], tabO []⟩
end Go.Proofs.YtdhkejcldipbmaaGreatDoor
namespace Go.Proofs.YtdhkejcldipbmaaGreatDoor
open Go Go.Ai
set_option linter.unusedSimpArgs false
set_option linter.unusedVariables false
set_option maxHeartbeats 4000000
def bsgSt (cl : FuncId) (l : List Smp) (at_ : Int) (x : Int × Int) : AS := ⟨tabV [(0, smps false l), (1, iv at_), (2, .one (.fn cl [])), (8, iv l.length), (9, iv x.1), (10, iv x.2)], tabO [], tabO []⟩
/-- The value at a moment, not in lowest terms; false: there is none. -/
def recSp (l : List Smp) (at_ : Int) : (Int × Int) × Bool :=
 if pos l at_ < l.length ∧ (l.getD (pos l at_).toNat default).a = at_ then (((l.getD (pos l at_).toNat default).v, 1), decide ((l.getD (pos l at_).toNat default).q ≠ 2))
 else if pos l at_ = 0 ∨ pos l at_ = l.length then ((0, 0), false)
 else ((lineN (l.getD (pos l at_ - 1).toNat default) (l.getD (pos l at_).toNat default) at_, (l.getD (pos l at_).toNat default).a - (l.getD (pos l at_ - 1).toNat default).a), decide ((l.getD (pos l at_ - 1).toNat default).q ≠ 2) && decide ((l.getD (pos l at_).toNat default).q ≠ 2))
def recoSp (l : List Smp) (at_ : Int) : (Int × Int) × Bool × Int :=
 if serFault l ≠ 0 then ((0, 0), false, serFault l) else if ¬(0 ≤ at_ ∧ at_ ≤ 345686399999) then ((0, 0), false, 1) else if (recSp l at_).2 = false then ((0, 0), false, 0) else ((lowN (recSp l at_).1.1 (recSp l at_).1.2, lowD (recSp l at_).1.1 (recSp l at_).1.2), true, 0)
theorem recSp_bd {l : List Smp} (hg : Good l) {at_ : Int} (ha : 0 ≤ at_ ∧ at_ ≤ 345686400000) (h : (recSp l at_).2 = true) : (-2000000000000000000 ≤ (recSp l at_).1.1 ∧ (recSp l at_).1.1 ≤ 2000000000000000000) ∧ 1 ≤ (recSp l at_).1.2 ∧ (recSp l at_).1.2 ≤ 345686400000 := by
 have hp := pos_bd hg at_
 unfold recSp at h ⊢
 by_cases h1 : pos l at_ < l.length ∧ (l.getD (pos l at_).toNat default).a = at_
 ·have := hg.ok (pos l at_).toNat (by omega)
  unfold okSmp at this
  rw [if_pos h1]; simp only; omega
 ·rw [if_neg h1] at h ⊢
  by_cases h2 : pos l at_ = 0 ∨ pos l at_ = l.length
  ·rw [if_pos h2] at h; cases h
  ·rw [if_neg h2] at h ⊢
   have hoa := hg.ok (pos l at_ - 1).toNat (by omega)
   have hob := hg.ok (pos l at_).toNat (by omega)
   have hup := hg.up (pos l at_ - 1).toNat (pos l at_).toNat (by omega) (by omega)
   have hb := lineN_bd hoa hob ha
   unfold okSmp at hoa hob
   simp only [lineN]; omega
end Go.Proofs.YtdhkejcldipbmaaGreatDoor
namespace Go.Proofs.YtdhkejcldipbmaaGreatDoor
open Go Go.Ai
set_option linter.unusedSimpArgs false
set_option linter.unusedVariables false
set_option maxHeartbeats 4000000
abbrev twoV (a b : Int) : Val := .ag [.g (.int .i64 a), .g (.int .i64 b)]
def excF (x y : Int) : Int := if 0 ≤ x ∧ x ≤ 2000000 ∧ 1 ≤ y ∧ y ≤ 34560000000 then 0 else 1
theorem excF_or (x y : Int) : orSp [if 0 ≤ x ∧ x ≤ 2000000 then 0 else 1, if 1 ≤ y ∧ y ≤ 34560000000 then 0 else 1] = excF x y := by
 unfold excF orSp orSp orSp; split <;> split <;> split <;> simp_all <;> omega
def fstSt (fr : Bool) (l : List Int) (i : Int) : AS := ⟨tabV [(5, ints fr l), (6, iv l.length), (7, iv i)], tabO [], tabO []⟩
def idxE (x : Int) : Int → List Int → Int
 | _, [] => -1
 | i, y :: l => if x = y then i else idxE x (i + 1) l
theorem idxE_mem (x : Int) : ∀ (l : List Int) (i : Int), 0 ≤ i → (0 ≤ idxE x i l ↔ x ∈ l)
 | [], i, h => by simp [idxE]
 | y :: l, i, h => by
  rw [idxE, List.mem_cons]
  by_cases hx : x = y
  ·rw [if_pos hx]; simp [hx, h]
  ·rw [if_neg hx, idxE_mem x l (i + 1) (by omega)]; simp [hx]
def ixiSt (fr : Bool) (l : List Int) (x : Int) (i : Int) : AS := ⟨tabV [(0, ints fr l), (1, iv x), (7, iv l.length), (8, iv i)], tabO [], tabO []⟩
def eqISt (fr fr' : Bool) (l : List Int) (i : Int) : AS := ⟨tabV [(0, ints fr l), (1, ints fr' l), (12, iv l.length), (13, iv i)], tabO [], tabO []⟩
end Go.Proofs.YtdhkejcldipbmaaGreatDoor

/-
 Numbers, as the reference reads them.
-/
import Derived.Test.YtodmofhehabmgaaGreatDoorWrl
namespace Go.Proofs.YtodmofhehabmgaaGreatDoor
open Go Go.Ai
set_option linter.unusedSimpArgs false
set_option linter.unusedVariables false
set_option maxHeartbeats 4000000
def C_rint : AC := (.seq (.reg false [gI 4 (.mv (oI 0)),gI 5 (.mv (.v (.bool false)))] (kP [0,1] [] []))
 (.seq (.reg false [gM 9 0,gI 10 (.call (.f 103) [(.t 9),(.v (.string (ByteArray.mk #[45])))]),gM 6 10] (kP [0,1,6] [] []))
 (.seq (.seq (.reg false [gM 11 6,gI 12 (.slen (.t 11)),gM 13 1,gI 14 (.call (.f 37) [(.t 12),(oI 1),(.t 13)]),gI 15 (.un .not (.t 14)),gM 16 15,gG 17 16 false (.mv (.t 6)),gG 18 16 false (.call (.f 85) [(.t 17),(.v (.string (ByteArray.mk #[48,49,50,51,52,53,54,55,56,57])))]),gG 19 16 false (.bin .neq (.t 18) (.v (.string (ByteArray.mk #[])))),gI 20 (.pick (.t 16) (.v (.bool true)) (.t 19))] (kP [0,20] [] []))
 (.cond (.t 20)
 (.seq (.reg false [gI 4 (.mv (oI 0)),gI 5 (.mv (.v (.bool false)))] (kP [4,5] [] []))
 .ret)
 .skip))
 (.seq (.reg false [gM 22 0,gI 23 (.call (.f 104) [(.t 22)]),gM 21 23,gI 24 (.extr (.t 21) 0),gI 25 (.extr (.t 21) 1),gM 7 24,gM 8 25] (kP [0,7,8] [] []))
 (.seq (.reg false [gM 26 7,gM 27 8,gI 28 (.eqs false false [.ni] (.t 27) (.v .nilIface)),gM 29 28,gG 30 29 true (.mv (.t 7)),gG 31 29 true (.call (.f 33) [(.t 30)]),gG 32 29 true (.mv (.t 0)),gG 33 29 true (.bin .eql (.t 31) (.t 32)),gI 34 (.pick (.t 29) (.t 33) (.v (.bool false))),gM 4 26,gM 5 34] (kP [4,5] [] []))
 .ret)))))
theorem fc_rint : FcT Tryz.prog 77 Tryz.f77 C_rint [.t 4, .t 5] := fc_mk [aN [0,1] [] [],aN [0,1,6] [] [],aN [0,20] [] [],aN [4,5] [] [],aN [0,7,8] [] [],aN [4,5] [] []] Tryz.func77 (by kernel_rfl)
theorem decFrom_lt : ∀ (l : List UInt8) (acc n : Nat), Lib.decFrom acc l = some n → n < (acc + 1) * 10 ^ l.length
 | [], acc, n, h => by
  simp only [Lib.decFrom, Option.some.injEq] at h
  subst h; simp
 | b :: l, acc, n, h => by
  rw [Lib.decFrom] at h
  cases hd : Lib.digitVal b with
  | none => rw [hd] at h; simp at h
  | some d =>
   rw [hd] at h
   have h9 := (dig_of hd).1
   have := decFrom_lt l _ n h
   rw [List.length_cons, Nat.pow_succ]
   have h2 : (acc * 10 + d + 1) * 10 ^ l.length ≤ (acc + 1) * 10 * 10 ^ l.length := Nat.mul_le_mul_right _ (by omega)
   have h3 : (acc + 1) * 10 * 10 ^ l.length = (acc + 1) * (10 ^ l.length * 10) := by ac_rfl
   omega
/-- Digits, and a sign before them: a number; it is written so if it is one as the program has them. -/
theorem dig_atoi {s : List UInt8} (h1 : numD s ≠ []) (h2 : (numD s).length ≤ 15) (h4 : (numD s).all isDig = true) : ∃ n, Lib.atoi s = some n ∧ I64 n ∧ numOk s = decide (Lib.itoa n = s) := by
 obtain ⟨n, hn⟩ := decFrom_all (numD s) 0 h4
 have hb := decFrom_lt _ _ _ hn
 have hb2 : n < 1000000000000000 := by
  have : 10 ^ (numD s).length ≤ 10 ^ 15 := Nat.pow_le_pow_right (by omega) h2
  have : (10 : Nat) ^ 15 = 1000000000000000 := rfl
  omega
 have hdn : Lib.decNat (numD s) = some n := by
  unfold Lib.decNat
  rw [if_neg (by simpa using h1)]; exact hn
 have fin : ∀ z : Int, Lib.atoi s = some z → -1000000000000000 < z → z < 1000000000000000 → ∃ n, Lib.atoi s = some n ∧ I64 n ∧ numOk s = decide (Lib.itoa n = s) := fun z hz g1 g2 => by
  refine ⟨z, hz, by unfold I64; omega, ?_⟩
  rw [Bool.eq_iff_iff, decide_eq_true_eq]
  constructor
  ·intro h
   obtain ⟨m, e1, e2, _⟩ := num_atoi h
   rw [hz] at e1; injection e1 with e1; subst e1; exact e2
  ·intro h
   have := (itoa_num (n := z) (by unfold big15; omega) (by unfold big15; omega)).1
   rw [h] at this; exact this
 cases s with
 | nil => simp [numD] at h1
 | cons b r =>
  by_cases hb : b = 45
  ·subst hb
   have e : numD (45 :: r) = r := rfl
   rw [e] at hdn
   exact fin (-(n : Int)) (by rw [Lib.atoi, if_pos (by rfl), hdn]; rfl) (by omega) (by omega)
  ·have e : numD (b :: r) = b :: r := if_neg (by simpa using hb)
   rw [e] at h4 hdn
   have h43 : ¬b = 43 := fun h0 => by
    subst h0
    rw [List.all_cons, Bool.and_eq_true] at h4
    exact absurd h4.1 (by decide)
   exact fin n (by rw [Lib.atoi, if_neg (by simpa using hb), if_neg (by simpa using h43), hdn]; rfl) (by omega) (by omega)
def digsB : ByteArray := ByteArray.mk #[48, 49, 50, 51, 52, 53, 54, 55, 56, 57]
theorem digs_to : ∀ c, c < 256 → inTo digsB digsB.size c = digB c := fun c hc => by
 have h : ((List.range 256).all fun c => inTo digsB digsB.size c == digB c) = true := by kernel_rfl
 exact beq_iff_eq.1 (List.all_eq_true.1 h c (List.mem_range.2 hc))
def dgB (s : ByteArray) : Bool := decide (1 ≤ (tlS s 45).size ∧ (tlS s 45).size ≤ 15) && allTo digB (tlS s 45) (tlS s 45).size
def rintN (s : ByteArray) : Int := if dgB s = true then atN s else 0
theorem numD_tl (s : ByteArray) : numD s.data.toList = (tlS s 45).data.toList := by
 unfold numD tlS hdIs
 by_cases h : s.data.toList.head? = some 45
 ·rw [if_pos h, if_pos (decide_eq_true h)]; rfl
 ·rw [if_neg h, if_neg (by simpa using h)]
theorem noB_dg {s : ByteArray} (h : dgB s = false) : noB s = false := by
 cases hn : noB s with
 | false => rfl
 | true =>
  have := noB_is s
  rw [hn] at this
  obtain ⟨h1, h2⟩ := Bool.and_eq_true_iff.1 this.symm
  have h1 := of_decide_eq_true h1
  unfold dgB at h
  rw [h2, decide_eq_true ⟨by omega, h1.2.1⟩] at h
  cases h
theorem dg_num {s : ByteArray} (h : dgB s = true) : Lib.atoi s.data.toList = some (atN s) ∧ I64 (atN s) ∧ noB s = decide (itoaB (atN s) = s) ∧ s.size ≤ 18 := by
 obtain ⟨h1, h2⟩ := Bool.and_eq_true_iff.1 h
 have h1 := of_decide_eq_true h1
 have hz := tlS_sz s 45
 rw [← all_dig] at h2
 obtain ⟨n, e1, e2, e3⟩ := dig_atoi (s := s.data.toList) (by rw [numD_tl]; intro e; have := szL (tlS s 45); rw [e] at this; have : (tlS s 45).size = 0 := this; omega) (by rw [numD_tl, ← szL]; omega) (by rw [numD_tl]; exact h2)
 have e4 : atN s = n := by unfold atN; rw [e1]; rfl
 rw [e4]
 refine ⟨e1, e2, ?_, by omega⟩
 unfold noB
 rw [e3, decide_eq_decide]
 constructor
 ·intro e; exact ba_ext (by unfold itoaB; rw [e])
 ·intro e; rw [← e]; unfold itoaB; rfl
set_option maxHeartbeats 8000000 in
theorem rint_fc (s : ByteArray) (hs : s.size ≤ 1000000) : FC Tryz.prog 77 none [sv s, iv 15] (fun _ r => r = .tu [iv (rintN s), bv (noB s)]) := by
 refine fc_rint (by simp +arith) ?_
 have hc := trimP_fc s ⟨#[45]⟩ 45 rfl hs
 have hz := tlS_sz s 45
 have hd : dgB s = (decide (1 ≤ (tlS s 45).size ∧ (tlS s 45).size ≤ 15) && allTo digB (tlS s 45) (tlS s 45).size) := rfl
 have hdn := @dg_num s
 have hnn := @noB_dg s
 have hrn : rintN s = if dgB s = true then atN s else 0 := rfl
 generalize tlS s 45 = D at hc hz hd
 generalize dgB s = G at hd hdn hnn hrn
 unfold C_rint
 simp (maxSteps := 1000000) (disch := (first | omega | assumption)) only [go_sem]
 refine CALL_det hc (.inl rfl) ?_
 simp (maxSteps := 1000000) (disch := (first | omega | assumption)) only [go_sem]
 refine CALL_det (rin1_fc _ _ _) (.inl rfl) ?_
 by_cases c1 : 1 ≤ D.size ∧ D.size ≤ 15
 ·rw [decide_eq_true (show (1 : Int) ≤ D.size ∧ (D.size : Int) ≤ 15 by omega)]
  have ht := trim_fc D digsB (fun i hi => of_decide_eq_true (by
   have h : ((List.range 10).all fun i => decide (byteN digsB i < 128)) = true := by kernel_rfl
   have hi : i < 10 := hi
   exact List.all_eq_true.1 h i (List.mem_range.2 hi))) (by omega) (of_decide_eq_true (by kernel_rfl)) (by omega) (of_decide_eq_true (by kernel_rfl))
  have h0 := trimS_0 (p := inTo digsB digsB.size) (b := D)
  rw [allTo_congr digs_to] at h0
  generalize trimS (inTo digsB digsB.size) D = T at ht h0
  unfold digsB at ht
  cases c2 : allTo digB D D.size with
  | true =>
   rw [c2, decide_eq_true c1] at hd
   have hT : T = emp := emp_iff.2 (h0.2 c2)
   subst hd
   obtain ⟨e1, e2, e3, e4⟩ := hdn rfl
   rw [hrn, if_pos (by rfl), e3]
   have hat := atoi_fc s (atN s) e4 e1
   have hit := itoa_fc (atN s) e2
   generalize atN s = n at *
   generalize itoaB n = I at *
   simp (maxSteps := 1000000) (disch := (first | omega | assumption)) only [go_sem]
   refine CALL_det ht (.inl rfl) ?_
   simp (maxSteps := 1000000) (disch := (first | omega | assumption)) only [go_sem]
   refine ⟨fun h => absurd hT h, fun _ => ?_⟩
   refine CALL_det hat (.inl rfl) ?_
   simp (maxSteps := 1000000) (disch := (first | omega | assumption)) only [go_sem]
   refine CALL_det hit (.inl rfl) ?_
   simp (maxSteps := 1000000) (disch := (first | omega | assumption)) only [go_sem]
  | false =>
   rw [c2, Bool.and_false] at hd
   have hT : ¬T = emp := fun h => by
    have := h0.1 (emp_iff.1 h)
    rw [c2] at this; cases this
   subst hd
   rw [hrn, if_neg (by simp), hnn rfl]
   simp (maxSteps := 1000000) (disch := (first | omega | assumption)) only [go_sem]
   refine CALL_det ht (.inl rfl) ?_
   simp (maxSteps := 1000000) (disch := (first | omega | assumption)) only [go_sem]
 ·rw [decide_eq_false (show ¬((1 : Int) ≤ D.size ∧ (D.size : Int) ≤ 15) by omega)]
  rw [decide_eq_false c1, Bool.false_and] at hd
  subst hd
  rw [hrn, if_neg (by simp), hnn rfl]
  simp (maxSteps := 1000000) (disch := (first | omega | assumption)) only [go_sem]
theorem rint_ok {s : ByteArray} (h : noB s = true) : rintN s = atN s := by
 unfold rintN
 rw [if_pos]
 cases hd : dgB s with
 | true => rfl
 | false => rw [noB_dg hd] at h; cases h
end Go.Proofs.YtodmofhehabmgaaGreatDoor

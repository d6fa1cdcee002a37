/-
 That the alarms' package does something.
-/
import Derived.Test.YtfgkpbkphmeigaaGreatDoorAct
import Derived.Test.YtfgkpbkphmeigaaGreatDoorTex
import Derived.Test.YtfgkpbkphmeigaaGreatDoorAc2
namespace Go.Proofs.YtfgkpbkphmeigaaGreatDoor
open Go Go.Ai
set_option linter.unusedSimpArgs false
set_option linter.unusedVariables false
set_option maxHeartbeats 4000000
def C_eqWin : AC := (.seq (.reg false [gI 4 (.mv (.v (.bool false)))] (kP [0,1] [] []))
 (.seq (.seq (.reg false [gM 6 0,gI 7 (.len (.t 6)),gM 8 1,gI 9 (.len (.t 8)),gI 10 (.bin .neq (.t 7) (.t 9))] (kP [0,1,10] [] []))
 (.cond (.t 10)
 (.seq (.reg false [gI 4 (.mv (.v (.bool false)))] (kP [4] [] []))
 .ret)
 .skip))
 (.seq (.seq (.reg false [gM 11 0,gI 12 (.len (.t 11)),gI 13 (.mv (oI 0))] (kP [0,1,12,13] [] []))
 (.block 0 (.loop (.seq (.reg false [gI 14 (.bin .lss (.t 13) (.t 12))] (kP [0,1,12,13,14] [] []))
 (.seq (.cond (.t 14)
 .skip
 (.exit 0))
 (.seq (.block 1 (.seq (.reg false [gM 15 13,gM 5 15] (kP [0,1,5,12,13] [] []))
 (.seq (.reg true [gM 16 0,gM 17 5,gI 18 (.iadr 2 (.t 16) (.t 17)),gI 19 (.load true 2 (.t 18)),gM 20 1,gM 21 5,gI 22 (.iadr 2 (.t 20) (.t 21)),gI 23 (.load true 2 (.t 22)),gI 24 (.eqs true true [.i .i64,.i .i64] (.t 19) (.t 23))] (kP [0,1,12,13,24] [] []))
 (.cond (.t 24)
 (.seq (.reg false [gI 4 (.mv (.v (.bool false)))] (kP [4] [] []))
 .ret)
 .skip))))
 (.reg false [gI 25 (.bin .add (.t 13) (oI 1)),gM 13 25] (kP [0,1,12,13] [] []))))))))
 (.seq (.reg false [gI 4 (.mv (.v (.bool true)))] (kP [4] [] []))
 .ret))))
theorem fc_eqWin : FcT Tryz.prog 68 Tryz.f68 C_eqWin [.t 4] := fc_mk [aN [0,1] [] [],aN [0,1,10] [] [],aN [4] [] [],aN [0,1,12,13] [] [],aN [0,1,12,13,14] [] [],aN [0,1,5,12,13] [] [],aN [0,1,12,13,24] [] [],aN [4] [] [],aN [0,1,12,13] [] [],aN [4] [] []] Tryz.func68 (by kernel_rfl)
def C_alarmed : AC := (.seq (.reg false [gI 0 (.mv (.v (.bool false)))] (kP [] [] []))
 (.seq (.reg false [gI 4 (.build [(.string (ByteArray.mk #[])),(.string (ByteArray.mk #[])),(.int .i64 (0)),(.int .i64 (0)),(.int .i64 (0)),(.int .i64 (0)),(.int .i64 (0)),(.int .i64 (0)),(.bool false),(.string (ByteArray.mk #[]))] [(0,1,(.v (.string (ByteArray.mk #[97])))),(1,1,(.v (.string (ByteArray.mk #[116])))),(2,1,(oI 1)),(3,1,(oI 5)),(7,1,(oI 1))]),gI 5 (.build [(.int .i64 (0)),(.int .i64 (0)),(.int .i64 (0))] [(0,1,(oI 3)),(1,1,(oI 6))]),gI 6 (.bslice 3 1 [(.t 5)]),gI 7 (.call (.f 113) [(.t 4),(.t 6),(oI 9)]),gM 3 7,gI 8 (.extr (.t 3) 0),gI 9 (.extr (.t 3) 1),gM 1 8,gM 2 9] (kP [1,2] [] []))
 (.seq (.reg false [gM 10 2,gI 11 (.bin .eql (.t 10) (oI 0)),gM 12 11,gG 13 12 true (.mv (.t 1)),gG 14 12 true (.build [(.int .i64 (0)),(.int .i64 (0))] [(0,1,(oI 3)),(1,1,(oI 9))]),gG 15 12 true (.bslice 2 1 [(.t 14)]),gG 16 12 true (.call (.f 68) [(.t 13),(.t 15)]),gI 17 (.pick (.t 12) (.t 16) (.v (.bool false))),gM 0 17] (kP [0] [] []))
 .ret)))
theorem fc_alarmed : FcT Tryz.prog 28 Tryz.f28 C_alarmed [.t 0] := fc_mk [aN [] [] [],aN [1,2] [] [],aN [0] [] []] Tryz.func28 (by kernel_rfl)
theorem gA0 (x : List Cel) : [x].getD (Int.toNat 0) [] = x := rfl
attribute [local go_sem] gA0
theorem eqWin_fc : FC Tryz.prog 68 none [frsV false [(3, 9)], frsV false [(3, 9)]] (fun _ r => r = bv true) := by
 refine fc_eqWin (by simp +arith) ?_
 unfold C_eqWin
 simp (maxSteps := 1000000) (disch := omega) only [go_sem]
 refine ex_rnd 3 ?_
 simp (maxSteps := 1000000) (disch := omega) only [go_sem]
abbrev kA : ByteArray := ByteArray.mk #[97]
abbrev kT : ByteArray := ByteArray.mk #[116]
abbrev kP0 : ByteArray := ByteArray.mk #[]
theorem active1_fc : FC Tryz.prog 158 none [almK kA kT kP0 false 1 5 0 0 0 1, smps false [⟨3, 6, 0⟩], iv 9] (fun _ r => r = frsV true [(3, 9)]) := by
 refine fc_active (by simp +arith) ?_
 have hh := hold_fc kA kT kP0 false 1 5 0 0 0 1 ⟨3, 6, 0⟩ (by unfold okSmp; simp) (by omega) (by omega)
 have e : hldSp 1 5 0 ⟨3, 6, 0⟩ = (true, false) := by kernel_rfl
 rw [e] at hh
 unfold C_active
 simp (maxSteps := 1000000) (disch := omega) only [go_sem]
 refine ex_rnd 3 ?_
 simp (maxSteps := 1000000) (disch := omega) only [go_sem]
 refine CALL_det hh (.inl rfl) ?_
 simp (maxSteps := 1000000) (disch := omega) only [go_sem]
 rfl
theorem active1P_fc : FC Tryz.prog 113 none [almK kA kT kP0 false 1 5 0 0 0 1, smps false [⟨3, 6, 0⟩], iv 9] (fun _ r => r = .tu [frsV true [(3, 9)], iv 0]) := by
 refine fc_activeP (by simp +arith) ?_
 have hcu := untilFault_fc kA kT kP0 false (of_decide_eq_true (by kernel_rfl)) (of_decide_eq_true (by kernel_rfl)) 1 5 0 0 0 1 [⟨3, 6, 0⟩] (by simp) 9
 have e : unF (keyOk kA && keyOk kT) 1 5 0 0 0 1 [⟨3, 6, 0⟩] 9 = 0 := by kernel_rfl
 rw [e] at hcu
 unfold C_activeP
 simp (maxSteps := 1000000) (disch := omega) only [go_sem]
 refine CALL_det hcu (.inl rfl) ?_
 simp (maxSteps := 1000000) (disch := omega) only [go_sem]
 refine CALL_det active1_fc (.inl rfl) ?_
 simp (maxSteps := 1000000) (disch := omega) only [go_sem]
 rfl
theorem alarmed_fc : FC Tryz.prog 28 none [] (fun _ r => r = bv true) := by
 refine fc_alarmed (by simp +arith) ?_
 unfold C_alarmed
 simp (maxSteps := 1000000) (disch := omega) only [go_sem]
 refine CALL_det active1P_fc (.inl rfl) ?_
 simp (maxSteps := 1000000) (disch := omega) only [go_sem]
 refine CALL_det eqWin_fc (.inl rfl) ?_
 simp (maxSteps := 1000000) (disch := omega) only [go_sem]
end Go.Proofs.YtfgkpbkphmeigaaGreatDoor
/-
 Equal lists of acts and of alarms; cmp.Or of faults; Text where something is wrong.
-/
namespace Go.Proofs.YtfgkpbkphmeigaaGreatDoor
open Go Go.Ai
set_option linter.unusedSimpArgs false
set_option linter.unusedVariables false
set_option maxHeartbeats 4000000
def C_eqOpr : AC := (.seq (.reg false [gI 4 (.mv (.v (.bool false)))] (kP [0,1] [] []))
 (.seq (.seq (.reg false [gM 6 0,gI 7 (.len (.t 6)),gM 8 1,gI 9 (.len (.t 8)),gI 10 (.bin .neq (.t 7) (.t 9))] (kP [0,1,10] [] []))
 (.cond (.t 10)
 (.seq (.reg false [gI 4 (.mv (.v (.bool false)))] (kP [4] [] []))
 .ret)
 .skip))
 (.seq (.seq (.reg false [gM 11 0,gI 12 (.len (.t 11)),gI 13 (.mv (oI 0))] (kP [0,1,12,13] [] []))
 (.block 0 (.loop (.seq (.reg false [gI 14 (.bin .lss (.t 13) (.t 12))] (kP [0,1,12,13,14] [] []))
 (.seq (.cond (.t 14)
 .skip
 (.exit 0))
 (.seq (.block 1 (.seq (.reg false [gM 15 13,gM 5 15] (kP [0,1,5,12,13] [] []))
 (.seq (.reg true [gM 16 0,gM 17 5,gI 18 (.iadr 6 (.t 16) (.t 17)),gI 19 (.load true 6 (.t 18)),gM 20 1,gM 21 5,gI 22 (.iadr 6 (.t 20) (.t 21)),gI 23 (.load true 6 (.t 22)),gI 24 (.eqs true true [.s,.i .i64,.i .i64,.i .i64,.s,.i .i64] (.t 19) (.t 23))] (kP [0,1,12,13,24] [] []))
 (.cond (.t 24)
 (.seq (.reg false [gI 4 (.mv (.v (.bool false)))] (kP [4] [] []))
 .ret)
 .skip))))
 (.reg false [gI 25 (.bin .add (.t 13) (oI 1)),gM 13 25] (kP [0,1,12,13] [] []))))))))
 (.seq (.reg false [gI 4 (.mv (.v (.bool true)))] (kP [4] [] []))
 .ret))))
theorem fc_eqOpr : FcT Tryz.prog 21 Tryz.f21 C_eqOpr [.t 4] := fc_mk [aN [0,1] [] [],aN [0,1,10] [] [],aN [4] [] [],aN [0,1,12,13] [] [],aN [0,1,12,13,14] [] [],aN [0,1,5,12,13] [] [],aN [0,1,12,13,24] [] [],aN [4] [] [],aN [0,1,12,13] [] [],aN [4] [] []] Tryz.func21 (by kernel_rfl)
def C_eqAlm : AC := (.seq (.reg false [gI 4 (.mv (.v (.bool false)))] (kP [0,1] [] []))
 (.seq (.seq (.reg false [gM 6 0,gI 7 (.len (.t 6)),gM 8 1,gI 9 (.len (.t 8)),gI 10 (.bin .neq (.t 7) (.t 9))] (kP [0,1,10] [] []))
 (.cond (.t 10)
 (.seq (.reg false [gI 4 (.mv (.v (.bool false)))] (kP [4] [] []))
 .ret)
 .skip))
 (.seq (.seq (.reg false [gM 11 0,gI 12 (.len (.t 11)),gI 13 (.mv (oI 0))] (kP [0,1,12,13] [] []))
 (.block 0 (.loop (.seq (.reg false [gI 14 (.bin .lss (.t 13) (.t 12))] (kP [0,1,12,13,14] [] []))
 (.seq (.cond (.t 14)
 .skip
 (.exit 0))
 (.seq (.block 1 (.seq (.reg false [gM 15 13,gM 5 15] (kP [0,1,5,12,13] [] []))
 (.seq (.reg true [gM 16 0,gM 17 5,gI 18 (.iadr 10 (.t 16) (.t 17)),gI 19 (.load true 10 (.t 18)),gM 20 1,gM 21 5,gI 22 (.iadr 10 (.t 20) (.t 21)),gI 23 (.load true 10 (.t 22)),gI 24 (.eqs true true [.s,.s,.i .i64,.i .i64,.i .i64,.i .i64,.i .i64,.i .i64,.b,.s] (.t 19) (.t 23))] (kP [0,1,12,13,24] [] []))
 (.cond (.t 24)
 (.seq (.reg false [gI 4 (.mv (.v (.bool false)))] (kP [4] [] []))
 .ret)
 .skip))))
 (.reg false [gI 25 (.bin .add (.t 13) (oI 1)),gM 13 25] (kP [0,1,12,13] [] []))))))))
 (.seq (.reg false [gI 4 (.mv (.v (.bool true)))] (kP [4] [] []))
 .ret))))
theorem fc_eqAlm : FcT Tryz.prog 27 Tryz.f27 C_eqAlm [.t 4] := fc_mk [aN [0,1] [] [],aN [0,1,10] [] [],aN [4] [] [],aN [0,1,12,13] [] [],aN [0,1,12,13,14] [] [],aN [0,1,5,12,13] [] [],aN [0,1,12,13,24] [] [],aN [4] [] [],aN [0,1,12,13] [] [],aN [4] [] []] Tryz.func27 (by kernel_rfl)
def eqOSt (l : List Opr) (i : Int) : AS := ⟨tabV [(0, oprs false l), (1, oprs false l), (12, iv l.length), (13, iv i)], tabO [], tabO []⟩
theorem eqOpr_fc (l : List Opr) (hl : l.length ≤ 1000000) : FC Tryz.prog 21 none [oprs false l, oprs false l] (fun _ r => r = bv true) := by
 refine fc_eqOpr (by simp +arith) ?_
 unfold C_eqOpr
 simp (maxSteps := 1000000) (disch := omega) only [go_sem]
 refine ex_loop1 (eqOSt l) (fun i => 0 ≤ i ∧ i ≤ l.length) (fun i => (l.length - i).toNat) 0 ⟨by omega, by omega⟩ rfl ?_
 rintro i ⟨g1, g2⟩
 unfold eqOSt
 by_cases hi : i < l.length
 ·simp (maxSteps := 1000000) (disch := omega) only [go_sem]
  exact ⟨_, rfl, ⟨by omega, by omega⟩, by omega⟩
 ·simp (maxSteps := 1000000) (disch := omega) only [go_sem]
def eqASt (l : List Alm) (i : Int) : AS := ⟨tabV [(0, alms false l), (1, alms false l), (12, iv l.length), (13, iv i)], tabO [], tabO []⟩
theorem eqAlm_fc (l : List Alm) (hl : l.length ≤ 1000000) : FC Tryz.prog 27 none [alms false l, alms false l] (fun _ r => r = bv true) := by
 refine fc_eqAlm (by simp +arith) ?_
 unfold C_eqAlm
 simp (maxSteps := 1000000) (disch := omega) only [go_sem]
 refine ex_loop1 (eqASt l) (fun i => 0 ≤ i ∧ i ≤ l.length) (fun i => (l.length - i).toNat) 0 ⟨by omega, by omega⟩ rfl ?_
 rintro i ⟨g1, g2⟩
 unfold eqASt
 by_cases hi : i < l.length
 ·simp (maxSteps := 1000000) (disch := omega) only [go_sem]
  exact ⟨_, rfl, ⟨by omega, by omega⟩, by omega⟩
 ·simp (maxSteps := 1000000) (disch := omega) only [go_sem]
theorem text_ko (l : List Alm) (hl : l.length ≤ 1000000) (hsm : ∀ x ∈ l, x.k.size ≤ 1000000 ∧ x.t.size ≤ 1000000) (h : caF l ≠ 0) : FC Tryz.prog 22 none [alms false l] (fun _ r => r = .tu [sv emp, iv (caF l)]) := by
 have hca := checkAlarmsG_fc l hl hsm
 refine fc_text (by simp +arith) ?_
 generalize caF l = e at *
 unfold C_text
 simp (maxSteps := 1000000) (disch := (first | omega | assumption)) only [go_sem]
 refine CALL_det hca (.inl rfl) ?_
 simp (maxSteps := 1000000) (disch := (first | omega | assumption)) only [go_sem]
end Go.Proofs.YtfgkpbkphmeigaaGreatDoor


/-
 What ActsAreOne compares.
-/
import Derived.Test.YtcagelfmngmocaaGreatDoorStn
import Derived.Test.YtcagelfmngmocaaGreatDoorAc2
namespace Go.Proofs.YtcagelfmngmocaaGreatDoor
open Go Go.Ai
set_option linter.unusedSimpArgs false
set_option linter.unusedVariables false
set_option maxHeartbeats 4000000
def C_eqOpr : AC := (.seq (.reg false [gI 4 (.mv (.v (.bool false)))] (kP [0,1] [] []))
 (.seq (.seq (.reg false [gM 6 0,gI 7 (.len (.t 6)),gM 8 1,gI 9 (.len (.t 8)),gI 10 (.bin .neq (.t 7) (.t 9))] (kP [0,1,10] [] []))
 (.cond (.t 10)
 (.seq (.reg false [gI 4 (.mv (.v (.bool false)))] (kP [4] [] []))
 .ret)
 .skip))
 (.seq (.seq (.reg false [gM 11 0,gI 12 (.len (.t 11)),gI 13 (.mv (oI 0))] (kP [0,1,12,13] [] []))
 (.block 0 (.loop (.seq (.reg false [gI 14 (.bin .lss (.t 13) (.t 12))] (kP [0,1,12,13,14] [] []))
 (.seq (.cond (.t 14)
 .skip
 (.exit 0))
 (.seq (.block 1 (.seq (.reg false [gM 15 13,gM 5 15] (kP [0,1,5,12,13] [] []))
 (.seq (.reg true [gM 16 0,gM 17 5,gI 18 (.iadr 6 (.t 16) (.t 17)),gI 19 (.load true 6 (.t 18)),gM 20 1,gM 21 5,gI 22 (.iadr 6 (.t 20) (.t 21)),gI 23 (.load true 6 (.t 22)),gI 24 (.eqs true true [.s,.i .i64,.i .i64,.i .i64,.s,.i .i64] (.t 19) (.t 23))] (kP [0,1,12,13,24] [] []))
 (.cond (.t 24)
 (.seq (.reg false [gI 4 (.mv (.v (.bool false)))] (kP [4] [] []))
 .ret)
 .skip))))
 (.reg false [gI 25 (.bin .add (.t 13) (oI 1)),gM 13 25] (kP [0,1,12,13] [] []))))))))
 (.seq (.reg false [gI 4 (.mv (.v (.bool true)))] (kP [4] [] []))
 .ret))))
theorem fc_eqOpr : FcT Tryz.prog 22 Tryz.f22 C_eqOpr [.t 4] := fc_mk [aN [0,1] [] [],aN [0,1,10] [] [],aN [4] [] [],aN [0,1,12,13] [] [],aN [0,1,12,13,14] [] [],aN [0,1,5,12,13] [] [],aN [0,1,12,13,24] [] [],aN [4] [] [],aN [0,1,12,13] [] [],aN [4] [] []] Tryz.func22 (by kernel_rfl)
def C_eqStd : AC := (.seq (.reg false [gI 4 (.mv (.v (.bool false)))] (kP [0,1] [] []))
 (.seq (.seq (.reg false [gM 6 0,gI 7 (.len (.t 6)),gM 8 1,gI 9 (.len (.t 8)),gI 10 (.bin .neq (.t 7) (.t 9))] (kP [0,1,10] [] []))
 (.cond (.t 10)
 (.seq (.reg false [gI 4 (.mv (.v (.bool false)))] (kP [4] [] []))
 .ret)
 .skip))
 (.seq (.seq (.reg false [gM 11 0,gI 12 (.len (.t 11)),gI 13 (.mv (oI 0))] (kP [0,1,12,13] [] []))
 (.block 0 (.loop (.seq (.reg false [gI 14 (.bin .lss (.t 13) (.t 12))] (kP [0,1,12,13,14] [] []))
 (.seq (.cond (.t 14)
 .skip
 (.exit 0))
 (.seq (.block 1 (.seq (.reg false [gM 15 13,gM 5 15] (kP [0,1,5,12,13] [] []))
 (.seq (.reg true [gM 16 0,gM 17 5,gI 18 (.iadr 3 (.t 16) (.t 17)),gI 19 (.load true 3 (.t 18)),gM 20 1,gM 21 5,gI 22 (.iadr 3 (.t 20) (.t 21)),gI 23 (.load true 3 (.t 22)),gI 24 (.eqs true true [.s,.i .i64,.i .i64] (.t 19) (.t 23))] (kP [0,1,12,13,24] [] []))
 (.cond (.t 24)
 (.seq (.reg false [gI 4 (.mv (.v (.bool false)))] (kP [4] [] []))
 .ret)
 .skip))))
 (.reg false [gI 25 (.bin .add (.t 13) (oI 1)),gM 13 25] (kP [0,1,12,13] [] []))))))))
 (.seq (.reg false [gI 4 (.mv (.v (.bool true)))] (kP [4] [] []))
 .ret))))
theorem fc_eqStd : FcT Tryz.prog 25 Tryz.f25 C_eqStd [.t 4] := fc_mk [aN [0,1] [] [],aN [0,1,10] [] [],aN [4] [] [],aN [0,1,12,13] [] [],aN [0,1,12,13,14] [] [],aN [0,1,5,12,13] [] [],aN [0,1,12,13,24] [] [],aN [4] [] [],aN [0,1,12,13] [] [],aN [4] [] []] Tryz.func25 (by kernel_rfl)
def eqOSt (l : List Opr) (i : Int) : AS := ⟨tabV [(0, oprs false l), (1, oprs false l), (12, iv l.length), (13, iv i)], tabO [], tabO []⟩
theorem eqOpr_fc (l : List Opr) (hl : l.length ≤ 1000000) : FC Tryz.prog 22 none [oprs false l, oprs false l] (fun _ r => r = bv true) := by
 refine fc_eqOpr (by simp +arith) ?_
 unfold C_eqOpr
 simp (maxSteps := 1000000) (disch := omega) only [go_sem]
 refine ex_loop1 (eqOSt l) (fun i => 0 ≤ i ∧ i ≤ l.length) (fun i => (l.length - i).toNat) 0 ⟨by omega, by omega⟩ rfl ?_
 rintro i ⟨g1, g2⟩
 unfold eqOSt
 by_cases hi : i < l.length
 ·simp (maxSteps := 1000000) (disch := omega) only [go_sem]
  exact ⟨_, rfl, ⟨by omega, by omega⟩, by omega⟩
 ·simp (maxSteps := 1000000) (disch := omega) only [go_sem]
abbrev stds (l : List Std) : Val := .one (.sl false 3 (l.map stdS))
def eqDSt (l : List Std) (i : Int) : AS := ⟨tabV [(0, stds l), (1, stds l), (12, iv l.length), (13, iv i)], tabO [], tabO []⟩
theorem eqStd_fc (l : List Std) (hl : l.length ≤ 1000000) : FC Tryz.prog 25 none [stds l, stds l] (fun _ r => r = bv true) := by
 refine fc_eqStd (by simp +arith) ?_
 unfold C_eqStd
 simp (maxSteps := 1000000) (disch := omega) only [go_sem]
 refine ex_loop1 (eqDSt l) (fun i => 0 ≤ i ∧ i ≤ l.length) (fun i => (l.length - i).toNat) 0 ⟨by omega, by omega⟩ rfl ?_
 rintro i ⟨g1, g2⟩
 unfold eqDSt
 by_cases hi : i < l.length
 ·simp (maxSteps := 1000000) (disch := omega) only [go_sem]
  exact ⟨_, rfl, ⟨by omega, by omega⟩, by omega⟩
 ·simp (maxSteps := 1000000) (disch := omega) only [go_sem]
end Go.Proofs.YtcagelfmngmocaaGreatDoor

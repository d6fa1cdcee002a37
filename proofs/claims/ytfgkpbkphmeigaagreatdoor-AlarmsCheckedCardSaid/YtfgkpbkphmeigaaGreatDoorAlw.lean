/-
 The reference's fault of an alarm.
 What is wrong with alarms: the reference's and the program's.
-/
import Derived.Test.YtfgkpbkphmeigaaGreatDoorAct
import Derived.Test.YtfgkpbkphmeigaaGreatDoorCrs
import Derived.Test.YtfgkpbkphmeigaaGreatDoorAlp
namespace Go.Proofs.YtfgkpbkphmeigaaGreatDoor
open Go Go.Ai
set_option linter.unusedSimpArgs false
set_option linter.unusedVariables false
set_option maxHeartbeats 4000000
def C_ralm : AC := (.seq (.reg false [gI 1 (.box (.t 0)),gI 2 (.mv (oI 0))] (kP [1] [1] []))
 (.seq (.block 0 (.seq (.reg false [gI 4 (.fadr 0 (.t 1)),gI 5 (.load false 1 (.t 4)),gI 6 (.call (.f 84) [(.t 5)]),gI 7 (.un .not (.t 6)),gM 8 7,gG 9 8 false (.fadr 1 (.t 1)),gG 10 8 false (.load false 1 (.t 9)),gG 11 8 false (.call (.f 84) [(.t 10)]),gG 12 8 false (.un .not (.t 11)),gI 13 (.pick (.t 8) (.v (.bool true)) (.t 12)),gM 3 13] (kP [1,3] [1] []))
 (.cond (.t 3)
 (.seq (.reg false [gI 2 (.mv (oI 5))] (kP [2] [] []))
 .ret)
 (.seq (.reg false [gI 15 (.fadr 2 (.t 1)),gI 16 (.load false 1 (.t 15)),gI 17 (.call (.f 116) [(.t 16),(oI 1),(oI 3)]),gI 18 (.un .not (.t 17)),gM 14 18] (kP [1,14] [1] []))
 (.cond (.t 14)
 (.seq (.reg false [gI 2 (.mv (oI 4))] (kP [2] [] []))
 .ret)
 (.seq (.reg false [gI 20 (.fadr 3 (.t 1)),gI 21 (.load false 1 (.t 20)),gI 22 (.call (.f 173) [(.t 21)]),gI 23 (.bin .neq (.t 22) (oI 0)),gM 24 23,gG 25 24 false (.fadr 4 (.t 1)),gG 26 24 false (.load false 1 (.t 25)),gG 27 24 false (.call (.f 116) [(.t 26),(oI 0),(oI 2000000)]),gG 28 24 false (.un .not (.t 27)),gI 29 (.pick (.t 24) (.v (.bool true)) (.t 28)),gM 30 29,gG 31 30 false (.fadr 5 (.t 1)),gG 32 30 false (.load false 1 (.t 31)),gG 33 30 false (.call (.f 116) [(.t 32),(oI 0),(oI 86400000)]),gG 34 30 false (.un .not (.t 33)),gI 35 (.pick (.t 30) (.v (.bool true)) (.t 34)),gM 36 35,gG 37 36 false (.fadr 6 (.t 1)),gG 38 36 false (.load false 1 (.t 37)),gG 39 36 false (.call (.f 116) [(.t 38),(oI 0),(oI 86400000)]),gG 40 36 false (.un .not (.t 39)),gI 41 (.pick (.t 36) (.v (.bool true)) (.t 40)),gM 42 41,gG 43 42 false (.fadr 7 (.t 1)),gG 44 42 false (.load false 1 (.t 43)),gG 45 42 false (.call (.f 116) [(.t 44),(oI 1),(oI 1000)]),gG 46 42 false (.un .not (.t 45)),gI 47 (.pick (.t 42) (.v (.bool true)) (.t 46)),gM 19 47] (kP [1,19] [1] []))
 (.cond (.t 19)
 (.seq (.reg false [gI 2 (.mv (oI 1))] (kP [2] [] []))
 .ret)
 (.seq (.reg false [gI 49 (.fadr 2 (.t 1)),gI 50 (.load false 1 (.t 49)),gI 51 (.bin .eql (.t 50) (oI 3)),gM 52 51,gG 53 52 true (.fadr 3 (.t 1)),gG 54 52 true (.load false 1 (.t 53)),gG 55 52 true (.bin .neq (.t 54) (oI 0)),gG 56 52 true (.mv (.t 55)),gG 57 56 false (.fadr 4 (.t 1)),gG 58 56 false (.load false 1 (.t 57)),gG 59 56 false (.bin .neq (.t 58) (oI 0)),gG 60 52 true (.pick (.t 56) (.v (.bool true)) (.t 59)),gI 61 (.pick (.t 52) (.t 60) (.v (.bool false))),gM 48 61] (kP [48] [] []))
 (.cond (.t 48)
 (.seq (.reg false [gI 2 (.mv (oI 3))] (kP [2] [] []))
 .ret)
 .skip)))))))))
 (.seq (.reg false [gI 2 (.mv (oI 0))] (kP [2] [] []))
 .ret)))
theorem fc_ralm : FcT Tryz.prog 75 Tryz.f75 C_ralm [.t 2] := fc_mk [aN [1] [1] [],aN [1,3] [1] [],aN [2] [] [],aN [1,14] [1] [],aN [2] [] [],aN [1,19] [1] [],aN [2] [] [],aN [48] [] [],aN [2] [] [],aN [2] [] []] Tryz.func75 (by kernel_rfl)
theorem ralm_fc (kb tb pb : ByteArray) (lt : Bool) (hkb : kb.size ≤ 9223372036854775807) (htb : tb.size ≤ 9223372036854775807) (kd lim db on off pr : Int) : FC Tryz.prog 75 none [almK kb tb pb lt kd lim db on off pr] (fun _ r => r = iv (almG (keyOk kb && keyOk tb) kd lim db on off pr)) := by
 refine fc_ralm (by simp +arith) ?_
 unfold C_ralm
 simp (maxSteps := 1000000) (disch := omega) only [go_sem]
 refine CALL_det (rkey_fc kb hkb) (.inl rfl) ?_
 cases hk1 : keyOk kb with
 | false =>
  rw [Bool.false_and]
  simp (maxSteps := 1000000) (disch := omega) only [go_sem]
  exact iv_congr (by unfold almG; rw [if_pos rfl])
 | true =>
 rw [Bool.true_and]
 simp (maxSteps := 1000000) (disch := omega) only [go_sem]
 refine CALL_det (rkey_fc tb htb) (.inl rfl) ?_
 cases hk2 : keyOk tb with
 | false =>
  simp (maxSteps := 1000000) (disch := omega) only [go_sem]
  exact iv_congr (by unfold almG; rw [if_pos rfl])
 | true =>
 have eg : almG true kd lim db on off pr = almF kd lim db on off pr := by unfold almG; rw [if_neg (by simp)]
 rw [eg]
 simp (maxSteps := 1000000) (disch := omega) only [go_sem]
 refine CALL_det (rin1_fc _ _ _) (.inl rfl) ?_
 by_cases h0 : kd < 1 ∨ kd > 3
 ·rw [decide_eq_false (show ¬(1 ≤ kd ∧ kd ≤ 3) by omega)]
  simp (maxSteps := 1000000) (disch := omega) only [go_sem]
  exact iv_congr (by unfold almF; rw [if_pos h0])
 rw [decide_eq_true (show 1 ≤ kd ∧ kd ≤ 3 by omega)]
 simp (maxSteps := 1000000) (disch := omega) only [go_sem]
 refine CALL_det (limitFault_fc _) (.inl rfl) ?_
 unfold limF
 by_cases h1 : lim < -1000000 ∨ lim > 1000000
 ·rw [if_neg (show ¬(-1000000 ≤ lim ∧ lim ≤ 1000000) by omega)]
  simp (maxSteps := 1000000) (disch := omega) only [go_sem]
  exact iv_congr (by unfold almF; rw [if_neg h0, if_pos (by omega)])
 rw [if_pos (show -1000000 ≤ lim ∧ lim ≤ 1000000 by omega)]
 simp (maxSteps := 1000000) (disch := omega) only [go_sem]
 refine CALL_det (rin1_fc _ _ _) (.inl rfl) ?_
 by_cases h2 : db < 0 ∨ db > 2000000
 ·rw [decide_eq_false (show ¬(0 ≤ db ∧ db ≤ 2000000) by omega)]
  simp (maxSteps := 1000000) (disch := omega) only [go_sem]
  exact iv_congr (by unfold almF; rw [if_neg h0, if_pos (by omega)])
 rw [decide_eq_true (show 0 ≤ db ∧ db ≤ 2000000 by omega)]
 simp (maxSteps := 1000000) (disch := omega) only [go_sem]
 refine CALL_det (rin1_fc _ _ _) (.inl rfl) ?_
 by_cases h3 : on < 0 ∨ on > 86400000
 ·rw [decide_eq_false (show ¬(0 ≤ on ∧ on ≤ 86400000) by omega)]
  simp (maxSteps := 1000000) (disch := omega) only [go_sem]
  exact iv_congr (by unfold almF; rw [if_neg h0, if_pos (by omega)])
 rw [decide_eq_true (show 0 ≤ on ∧ on ≤ 86400000 by omega)]
 simp (maxSteps := 1000000) (disch := omega) only [go_sem]
 refine CALL_det (rin1_fc _ _ _) (.inl rfl) ?_
 by_cases h4 : off < 0 ∨ off > 86400000
 ·rw [decide_eq_false (show ¬(0 ≤ off ∧ off ≤ 86400000) by omega)]
  simp (maxSteps := 1000000) (disch := omega) only [go_sem]
  exact iv_congr (by unfold almF; rw [if_neg h0, if_pos (by omega)])
 rw [decide_eq_true (show 0 ≤ off ∧ off ≤ 86400000 by omega)]
 simp (maxSteps := 1000000) (disch := omega) only [go_sem]
 refine CALL_det (rin1_fc _ _ _) (.inl rfl) ?_
 by_cases h5 : pr < 1 ∨ pr > 1000
 ·rw [decide_eq_false (show ¬(1 ≤ pr ∧ pr ≤ 1000) by omega)]
  simp (maxSteps := 1000000) (disch := omega) only [go_sem]
  exact iv_congr (by unfold almF; rw [if_neg h0, if_pos (by omega)])
 rw [decide_eq_true (show 1 ≤ pr ∧ pr ≤ 1000 by omega)]
 have e : almF kd lim db on off pr = if kd = 3 ∧ (lim ≠ 0 ∨ db ≠ 0) then 3 else 0 := by unfold almF; rw [if_neg h0, if_neg (by omega)]
 rw [e]
 by_cases h6 : kd = 3
 ·by_cases h7 : lim = 0
  ·by_cases h8 : db = 0
   ·rw [if_neg (by omega)]
    simp (maxSteps := 1000000) (disch := omega) only [go_sem]
   ·rw [if_pos (by omega)]
    simp (maxSteps := 1000000) (disch := omega) only [go_sem]
  ·rw [if_pos (by omega)]
   simp (maxSteps := 1000000) (disch := omega) only [go_sem]
 ·rw [if_neg (by omega)]
  simp (maxSteps := 1000000) (disch := omega) only [go_sem]
end Go.Proofs.YtfgkpbkphmeigaaGreatDoor
namespace Go.Proofs.YtfgkpbkphmeigaaGreatDoor
open Go Go.Ai
set_option linter.unusedSimpArgs false
set_option linter.unusedVariables false
set_option maxHeartbeats 4000000
def C_idxAl : AC := (.seq (.reg false [gI 4 (.mv (oI 0))] (kP [0,1] [] []))
 (.seq (.seq (.reg false [gM 6 0,gI 7 (.len (.t 6)),gI 8 (.mv (oI 0))] (kP [0,1,7,8] [] []))
 (.block 0 (.loop (.seq (.reg false [gI 9 (.bin .lss (.t 8) (.t 7))] (kP [0,1,7,8,9] [] []))
 (.seq (.cond (.t 9)
 .skip
 (.exit 0))
 (.seq (.block 1 (.seq (.reg false [gM 10 8,gM 5 10] (kP [0,1,5,7,8] [] []))
 (.seq (.reg false [gM 11 1,gM 12 0,gM 13 5,gI 14 (.iadr 10 (.t 12) (.t 13)),gI 15 (.load true 10 (.t 14)),gI 16 (.call (.t 11) [(.t 15)])] (kP [0,1,5,7,8,16] [] []))
 (.cond (.t 16)
 (.seq (.reg false [gM 17 5,gM 4 17] (kP [4] [] []))
 .ret)
 .skip))))
 (.reg false [gI 18 (.bin .add (.t 8) (oI 1)),gM 8 18] (kP [0,1,7,8] [] []))))))))
 (.seq (.reg false [gI 4 (.mv (oI (-1)))] (kP [4] [] []))
 .ret)))
theorem fc_idxAl : FcT Tryz.prog 174 Tryz.f174 C_idxAl [.t 4] := fc_mk [aN [0,1] [] [],aN [0,1,7,8] [] [],aN [0,1,7,8,9] [] [],aN [0,1,5,7,8] [] [],aN [0,1,5,7,8,16] [] [],aN [4] [] [],aN [0,1,7,8] [] [],aN [4] [] []] Tryz.func174 (by kernel_rfl)
def C_aofC : AC := (.seq (.reg false [gI 2 (.box (.t 0)),gI 3 (.mv (.v (.bool false)))] (kP [1,2] [2] []))
 (.seq (.reg false [gI 4 (.fadr 0 (.t 2)),gI 5 (.load false 1 (.t 4)),gI 6 (.load false 1 (.t 1)),gI 7 (.bin .eql (.t 5) (.t 6)),gM 3 7] (kP [3] [] []))
 .ret))
theorem fc_aofC : FcT Tryz.prog 175 Tryz.f175 C_aofC [.t 3] := fc_mk [aN [1,2] [2] [],aN [3] [] []] Tryz.func175 (by kernel_rfl)
def C_alarmOf : AC := (.seq (.reg false [gI 3 (.box (.t 1)),gI 4 (.mv (oI 0))] (kP [0,3] [3] []))
 (.seq (.reg false [gM 5 0,gI 6 (.mkfn 175 [(.t 3)]),gI 7 (.call (.f 174) [(.t 5),(.t 6)]),gM 4 7] (kP [4] [] []))
 .ret))
theorem fc_alarmOf : FcT Tryz.prog 76 Tryz.f76 C_alarmOf [.t 4] := fc_mk [aN [0,3] [3] [],aN [4] [] []] Tryz.func76 (by kernel_rfl)
def C_alarmsFault : AC := (.seq (.reg false [gI 2 (.mv (oI 0))] (kP [0] [] []))
 (.seq (.seq (.reg false [gM 11 0,gI 12 (.len (.t 11)),gI 13 (.bin .gtr (.t 12) (oI 200))] (kP [0,13] [] []))
 (.cond (.t 13)
 (.seq (.reg false [gI 2 (.mv (oI 2))] (kP [2] [] []))
 .ret)
 .skip))
 (.seq (.seq (.reg false [gM 14 0,gI 15 (.len (.t 14)),gI 16 (.mv (oI 0))] (kP [0,14,15,16] [] []))
 (.block 0 (.loop (.seq (.reg false [gI 17 (.bin .lss (.t 16) (.t 15))] (kP [0,14,15,16,17] [] []))
 (.seq (.cond (.t 17)
 .skip
 (.exit 0))
 (.seq (.block 1 (.seq (.reg false [gM 18 16,gI 19 (.iadr 10 (.t 14) (.t 16)),gI 20 (.load true 10 (.t 19)),gI 4 (.alloc [(.string (ByteArray.mk #[])),(.string (ByteArray.mk #[])),(.int .i64 (0)),(.int .i64 (0)),(.int .i64 (0)),(.int .i64 (0)),(.int .i64 (0)),(.int .i64 (0)),(.bool false),(.string (ByteArray.mk #[]))]),gM 3 18,gN (.store 10 (.t 4) (.t 20))] (kP [0,3,4,14,15,16] [4] []))
 (.seq (.seq (.reg false [gI 21 (.load true 10 (.t 4)),gI 22 (.call (.f 75) [(.t 21)]),gM 5 22] (kP [0,3,4,5,14,15,16] [4] []))
 (.seq (.reg false [gM 23 5,gI 24 (.bin .neq (.t 23) (oI 0))] (kP [0,3,4,5,14,15,16,24] [4] []))
 (.cond (.t 24)
 (.seq (.reg false [gM 25 5,gM 2 25] (kP [2] [] []))
 .ret)
 .skip)))
 (.seq (.reg true [gM 26 3,gI 27 (.bin .gtr (.t 26) (oI 0)),gM 28 27,gG 29 28 true (.fadr 0 (.t 4)),gG 30 28 true (.load false 1 (.t 29)),gG 31 28 true (.mv (.t 0)),gG 32 28 true (.mv (.t 3)),gG 33 28 true (.bin .sub (.t 32) (oI 1)),gG 34 28 true (.iadr 10 (.t 31) (.t 33)),gG 35 28 true (.fadr 0 (.t 34)),gG 36 28 true (.load false 1 (.t 35)),gG 37 28 true (.bin .leq (.t 30) (.t 36)),gI 38 (.pick (.t 28) (.t 37) (.v (.bool false)))] (kP [0,14,15,16,38] [] []))
 (.cond (.t 38)
 (.seq (.reg false [gI 2 (.mv (oI 7))] (kP [2] [] []))
 .ret)
 .skip)))))
 (.reg false [gI 39 (.bin .add (.t 16) (oI 1)),gM 16 39] (kP [0,14,15,16] [] []))))))))
 (.seq (.seq (.reg false [gM 40 0,gI 41 (.len (.t 40)),gI 42 (.mv (oI 0))] (kP [0,40,41,42] [] []))
 (.block 2 (.loop (.seq (.reg false [gI 43 (.bin .lss (.t 42) (.t 41))] (kP [0,40,41,42,43] [] []))
 (.seq (.cond (.t 43)
 .skip
 (.exit 2))
 (.seq (.block 3 (.seq (.reg false [gI 44 (.iadr 10 (.t 40) (.t 42)),gI 45 (.load true 10 (.t 44)),gI 7 (.alloc [(.string (ByteArray.mk #[])),(.string (ByteArray.mk #[])),(.int .i64 (0)),(.int .i64 (0)),(.int .i64 (0)),(.int .i64 (0)),(.int .i64 (0)),(.int .i64 (0)),(.bool false),(.string (ByteArray.mk #[]))]),gN (.store 10 (.t 7) (.t 45))] (kP [0,7,40,41,42] [7] []))
 (.seq (.reg false [gI 46 (.fadr 9 (.t 7)),gI 47 (.load false 1 (.t 46)),gI 48 (.bin .neq (.t 47) (.v (.string (ByteArray.mk #[])))),gM 49 48,gG 50 49 true (.mv (.t 0)),gG 51 49 true (.fadr 9 (.t 7)),gG 52 49 true (.load false 1 (.t 51)),gG 53 49 true (.call (.f 76) [(.t 50),(.t 52)]),gG 54 49 true (.bin .lss (.t 53) (oI 0)),gI 55 (.pick (.t 49) (.t 54) (.v (.bool false)))] (kP [0,40,41,42,55] [] []))
 (.cond (.t 55)
 (.seq (.reg false [gI 2 (.mv (oI 8))] (kP [2] [] []))
 .ret)
 .skip))))
 (.reg false [gI 56 (.bin .add (.t 42) (oI 1)),gM 42 56] (kP [0,40,41,42] [] []))))))))
 (.seq (.seq (.reg false [gM 57 0,gI 58 (.len (.t 57)),gI 59 (.mv (oI 0))] (kP [0,57,58,59] [] []))
 (.block 4 (.loop (.seq (.reg false [gI 60 (.bin .lss (.t 59) (.t 58))] (kP [0,57,58,59,60] [] []))
 (.seq (.cond (.t 60)
 .skip
 (.exit 4))
 (.seq (.block 5 (.seq (.reg false [gI 61 (.iadr 10 (.t 57) (.t 59)),gI 62 (.load true 10 (.t 61)),gI 9 (.alloc [(.string (ByteArray.mk #[])),(.string (ByteArray.mk #[])),(.int .i64 (0)),(.int .i64 (0)),(.int .i64 (0)),(.int .i64 (0)),(.int .i64 (0)),(.int .i64 (0)),(.bool false),(.string (ByteArray.mk #[]))]),gN (.store 10 (.t 9) (.t 62))] (kP [0,9,57,58,59] [9] []))
 (.seq (.reg false [gI 63 (.load true 10 (.t 9)),gI 10 (.alloc [(.string (ByteArray.mk #[])),(.string (ByteArray.mk #[])),(.int .i64 (0)),(.int .i64 (0)),(.int .i64 (0)),(.int .i64 (0)),(.int .i64 (0)),(.int .i64 (0)),(.bool false),(.string (ByteArray.mk #[]))]),gN (.store 10 (.t 10) (.t 63))] (kP [0,9,10,57,58,59] [9,10] []))
 (.seq (.reg false [gM 64 0,gI 65 (.len (.t 64)),gI 66 (.mv (oI 0))] (kP [0,9,10,57,58,59,65,66] [9,10] []))
 (.block 6 (.loop (.seq (.reg false [gI 67 (.bin .lss (.t 66) (.t 65))] (kP [0,9,10,57,58,59,65,66,67] [9,10] []))
 (.seq (.cond (.t 67)
 .skip
 (.exit 6))
 (.seq (.block 7 (.seq (.seq (.reg false [gI 68 (.fadr 9 (.t 10)),gI 69 (.load false 1 (.t 68)),gI 70 (.bin .eql (.t 69) (.v (.string (ByteArray.mk #[]))))] (kP [0,9,10,57,58,59,65,66,70] [9,10] []))
 (.cond (.t 70)
 (.exit 6)
 .skip))
 (.seq (.reg false [gM 71 0,gM 72 0,gI 73 (.fadr 9 (.t 10)),gI 74 (.load false 1 (.t 73)),gI 75 (.call (.f 76) [(.t 72),(.t 74)]),gI 76 (.iadr 10 (.t 71) (.t 75)),gI 77 (.load true 10 (.t 76)),gN (.store 10 (.t 10) (.t 77))] (kP [0,9,10,57,58,59,65,66] [9,10] []))
 (.seq (.reg false [gI 78 (.fadr 0 (.t 10)),gI 79 (.load false 1 (.t 78)),gI 80 (.fadr 0 (.t 9)),gI 81 (.load false 1 (.t 80)),gI 82 (.bin .eql (.t 79) (.t 81))] (kP [0,9,10,57,58,59,65,66,82] [9,10] []))
 (.cond (.t 82)
 (.seq (.reg false [gI 2 (.mv (oI 14))] (kP [2] [] []))
 .ret)
 .skip)))))
 (.reg false [gI 83 (.bin .add (.t 66) (oI 1)),gM 66 83] (kP [0,9,10,57,58,59,65,66] [9,10] [])))))))))))
 (.reg false [gI 84 (.bin .add (.t 59) (oI 1)),gM 59 84] (kP [0,57,58,59] [] []))))))))
 (.seq (.reg false [gI 2 (.mv (oI 0))] (kP [2] [] []))
 .ret))))))
theorem fc_alarmsFault : FcT Tryz.prog 12 Tryz.f12 C_alarmsFault [.t 2] := fc_mk [aN [0] [] [],aN [0,13] [] [],aN [2] [] [],aN [0,14,15,16] [] [],aN [0,14,15,16,17] [] [],aN [0,3,4,14,15,16] [4] [],aN [0,3,4,5,14,15,16] [4] [],aN [0,3,4,5,14,15,16,24] [4] [],aN [2] [] [],aN [0,14,15,16,38] [] [],aN [2] [] [],aN [0,14,15,16] [] [],aN [0,40,41,42] [] [],aN [0,40,41,42,43] [] [],aN [0,7,40,41,42] [7] [],aN [0,40,41,42,55] [] [],aN [2] [] [],aN [0,40,41,42] [] [],aN [0,57,58,59] [] [],aN [0,57,58,59,60] [] [],aN [0,9,57,58,59] [9] [],aN [0,9,10,57,58,59] [9,10] [],aN [0,9,10,57,58,59,65,66] [9,10] [],aN [0,9,10,57,58,59,65,66,67] [9,10] [],aN [0,9,10,57,58,59,65,66,70] [9,10] [],aN [0,9,10,57,58,59,65,66] [9,10] [],aN [0,9,10,57,58,59,65,66,82] [9,10] [],aN [2] [] [],aN [0,9,10,57,58,59,65,66] [9,10] [],aN [0,57,58,59] [] [],aN [2] [] []] Tryz.func12 (by kernel_rfl)
def ixASt (key : ByteArray) (l : List Alm) (i : Int) : AS := ⟨tabV [(0, alms false l), (1, .one (.fn 175 [.ep [.g (.string key)]])), (7, iv l.length), (8, iv i)], tabO [], tabO []⟩
theorem aofC_fc (key : ByteArray) (x : Alm) : FC Tryz.prog 175 none [.ag (almS x), .one (.ep [.g (.string key)])] (fun _ r => r = bv (decide (x.k = key))) := by
 refine fc_aofC (by simp +arith) ?_
 unfold C_aofC
 simp (maxSteps := 1000000) (disch := (first | omega | assumption)) only [go_sem]
theorem idxAl_fc (key : ByteArray) (l : List Alm) (hl : l.length ≤ 1000000) : FC Tryz.prog 174 none [alms false l, .one (.fn 175 [.ep [.g (.string key)]])] (fun _ r => r = iv (idxA l key)) := by
 refine fc_idxAl (by simp +arith) ?_
 unfold C_idxAl
 simp (maxSteps := 1000000) (disch := (first | omega | assumption)) only [go_sem]
 refine ex_loop1 (ixASt key l) (fun i => 0 ≤ i ∧ i ≤ l.length ∧ idxG (fun x : Alm => decide (x.k = key)) i (l.drop i.toNat) = idxA l key) (fun i => (l.length - i).toNat) 0 ⟨by omega, by omega, rfl⟩ rfl ?_
 rintro i ⟨g1, g2, g3⟩
 unfold ixASt
 by_cases hi : i < l.length
 ·rw [drop_cons l i.toNat (by omega), idxG] at g3
  have e2 : (i + 1).toNat = i.toNat + 1 := by omega
  have em := getD_map_at almS l i [] g1 hi
  have hc := aofC_fc key (l.getD i.toNat default)
  rw [almS_eq] at hc
  simp (maxSteps := 1000000) (disch := (first | omega | assumption)) only [go_sem]
  refine CALL_det hc (.inl rfl) ?_
  by_cases h : (l.getD i.toNat default).k = key
  ·rw [if_pos (decide_eq_true h)] at g3
   rw [decide_eq_true h]
   simp (maxSteps := 1000000) (disch := (first | omega | assumption)) only [go_sem]
   rw [← g3]
  ·rw [if_neg (by simpa using h)] at g3
   rw [decide_eq_false h]
   simp (maxSteps := 1000000) (disch := (first | omega | assumption)) only [go_sem]
   exact ⟨_, rfl, ⟨by omega, by omega, by rw [e2]; exact g3⟩, by omega⟩
 ·rw [List.drop_eq_nil_of_le (by omega), idxG] at g3
  simp (maxSteps := 1000000) (disch := (first | omega | assumption)) only [go_sem]
  rw [← g3]
theorem alarmOf_fc (key : ByteArray) (l : List Alm) (hl : l.length ≤ 1000000) : FC Tryz.prog 76 none [alms false l, sv key] (fun _ r => r = iv (idxA l key)) := by
 refine fc_alarmOf (by simp +arith) ?_
 unfold C_alarmOf
 simp (maxSteps := 1000000) (disch := (first | omega | assumption)) only [go_sem]
 refine CALL_det (idxAl_fc key l hl) (.inl rfl) ?_
 simp (maxSteps := 1000000) (disch := (first | omega | assumption)) only [go_sem]
def prvA (l : List Alm) (i : Nat) : Option ByteArray := if i = 0 then none else some (l.getD (i - 1) default).k
theorem prvA_succ (l : List Alm) (i : Nat) : prvA l (i + 1) = some (l.getD i default).k := rfl
theorem ord_or {a b : ByteArray} : (ltS a b ∨ a = b) ↔ ¬ltS b a := by
 constructor
 ·rintro (h | h)
  ·exact ltS_asymm h
  ·subst h; exact ltS_irr _
 ·intro h
  rcases ltS_or a b with h1 | h1 | h1
  ·exact .inl h1
  ·exact .inr h1
  ·exact absurd h1 h
def af1St (l : List Alm) (i : Int) : AS := ⟨tabV [(0, alms false l), (14, alms false l), (15, iv l.length), (16, iv i)], tabO [], tabO []⟩
def af2St (l : List Alm) (i : Int) : AS := ⟨tabV [(0, alms false l), (40, alms false l), (41, iv l.length), (42, iv i)], tabO [], tabO []⟩
def af3St (l : List Alm) (i : Int) : AS := ⟨tabV [(0, alms false l), (57, alms false l), (58, iv l.length), (59, iv i)], tabO [], tabO []⟩
def af4St (l : List Alm) (i : Int) (x y : Alm) (j : Int) : AS := ⟨tabV [(0, alms false l), (9, .one (.bx 9 0)), (10, .one (.bx 10 0)), (57, alms false l), (58, iv l.length), (59, iv i), (65, iv l.length), (66, iv j)], tabO [(9, almS x), (10, almS y)], tabO []⟩
set_option maxHeartbeats 12000000 in
set_option maxRecDepth 8000 in
theorem alarmsFaultB_fc (l : List Alm) (hl : l.length ≤ 1000000) (hsm : ∀ x ∈ l, x.k.size ≤ 1000000 ∧ x.t.size ≤ 1000000) : FC Tryz.prog 12 none [alms false l] (fun _ r => r = iv (afF l)) := by
 refine fc_alarmsFault (by simp +arith) ?_
 unfold C_alarmsFault afF
 by_cases c0 : l.length > 200
 ·rw [if_pos c0]
  simp (maxSteps := 1000000) (disch := (first | omega | assumption)) only [go_sem]
 rw [if_neg c0]
 simp (maxSteps := 1000000) (disch := (first | omega | assumption)) only [go_sem]
 refine ex_loop1 (af1St l) (fun i => 0 ≤ i ∧ i ≤ l.length ∧ afGo (prvA l i.toNat) (l.drop i.toNat) = afGo none l) (fun i => (l.length - i).toNat) 0 ⟨by omega, by omega, rfl⟩ rfl ?_
 rintro i ⟨g1, g2, g3⟩
 unfold af1St
 by_cases hi : i < l.length
 ·have e2 : (i + 1).toNat = i.toNat + 1 := by omega
  have em := getD_map_at almS l i [] g1 hi
  have hm := hsm _ (getD_mem l i.toNat (by omega))
  rw [drop_cons l i.toNat (by omega), afGo, ← e2] at g3
  have hc := ralm_fc (l.getD i.toNat default).k (l.getD i.toNat default).t (l.getD i.toNat default).p (l.getD i.toNat default).lt (by omega) (by omega) (l.getD i.toNat default).kd (l.getD i.toNat default).lim (l.getD i.toNat default).db (l.getD i.toNat default).on (l.getD i.toNat default).off (l.getD i.toNat default).pr
  rw [show almG (keyOk (l.getD i.toNat default).k && keyOk (l.getD i.toNat default).t) (l.getD i.toNat default).kd (l.getD i.toNat default).lim (l.getD i.toNat default).db (l.getD i.toNat default).on (l.getD i.toNat default).off (l.getD i.toNat default).pr = (l.getD i.toNat default).flt from rfl] at hc
  by_cases c1 : (l.getD i.toNat default).flt ≠ 0
  ·rw [if_pos c1] at g3
   rw [← g3, if_pos c1]
   simp (maxSteps := 1000000) (disch := (first | omega | assumption)) only [go_sem]
   refine CALL_det hc (.inl rfl) ?_
   simp (maxSteps := 1000000) (disch := (first | omega | assumption)) only [go_sem]
  ·rw [if_neg c1] at g3
   by_cases hi0 : 0 < i
   ·have ep := getD_map_at almS l (i - 1) [] (by omega) (by omega)
    have e4 : prvA l i.toNat = some (l.getD (i - 1).toNat default).k := by
     unfold prvA; rw [if_neg (by omega)]
     rw [show i.toNat - 1 = (i - 1).toNat by omega]
    rw [e4] at g3
    have ho := ord_or (a := (l.getD i.toNat default).k) (b := (l.getD (i - 1).toNat default).k)
    by_cases c2 : ltS (l.getD (i - 1).toNat default).k (l.getD i.toNat default).k
    ·rw [if_neg (show ¬(ordBad (some (l.getD (i - 1).toNat default).k) (l.getD i.toNat default).k = true) from fun h => (of_decide_eq_true h) c2)] at g3
     have h5 : ¬(ltS (l.getD i.toNat default).k (l.getD (i - 1).toNat default).k ∨ (l.getD i.toNat default).k = (l.getD (i - 1).toNat default).k) := fun h => (ho.1 h) c2
     have hd := decide_eq_false h5
     simp (maxSteps := 1000000) (disch := (first | omega | assumption)) only [go_sem]
     refine CALL_det hc (.inl rfl) ?_
     simp (maxSteps := 1000000) (disch := (first | omega | assumption)) only [go_sem]
     exact ⟨i + 1, rfl, ⟨by omega, by omega, by rw [e2, prvA_succ, ← e2]; exact g3⟩, by omega⟩
    ·rw [if_pos (show ordBad (some (l.getD (i - 1).toNat default).k) (l.getD i.toNat default).k = true from decide_eq_true c2)] at g3
     have h5 := ho.2 c2
     rw [← g3, if_pos (by omega)]
     simp (maxSteps := 1000000) (disch := (first | omega | assumption)) only [go_sem]
     refine CALL_det hc (.inl rfl) ?_
     simp (maxSteps := 1000000) (disch := (first | omega | assumption)) only [go_sem]
   ·have e0 : i = 0 := by omega
    subst e0
    rw [show prvA l (Int.toNat 0) = none from rfl, if_neg (by simp [ordBad])] at g3
    simp (maxSteps := 1000000) (disch := (first | omega | assumption)) only [go_sem]
    refine CALL_det hc (.inl rfl) ?_
    simp (maxSteps := 1000000) (disch := (first | omega | assumption)) only [go_sem]
    exact ⟨1, rfl, ⟨by omega, by omega, g3⟩, by omega⟩
 ·rw [List.drop_eq_nil_of_le (by omega), afGo] at g3
  rw [if_neg (show ¬(afGo none l ≠ 0) by omega)]
  simp (maxSteps := 1000000) (disch := (first | omega | assumption)) only [go_sem]
  refine ex_loop1 (af2St l) (fun i => 0 ≤ i ∧ i ≤ l.length ∧ (l.drop i.toNat).any (noPar l) = l.any (noPar l)) (fun i => (l.length - i).toNat) 0 ⟨by omega, by omega, rfl⟩ rfl ?_
  rintro i ⟨g1, g2, g3⟩
  unfold af2St
  by_cases hi : i < l.length
  ·have e2 : (i + 1).toNat = i.toNat + 1 := by omega
   have em := getD_map_at almS l i [] g1 hi
   rw [drop_cons l i.toNat (by omega), List.any_cons, ← e2] at g3
   have hc := alarmOf_fc (l.getD i.toNat default).p l hl
   by_cases c1 : (l.getD i.toNat default).p = emp
   ·rw [show noPar l (l.getD i.toNat default) = false from decide_eq_false (fun h => h.1 c1), Bool.false_or] at g3
    have c1' : ¬¬(l.getD i.toNat default).p = emp := fun h => h c1
    simp (maxSteps := 1000000) (disch := (first | omega | assumption)) only [go_sem]
    exact ⟨i + 1, rfl, ⟨by omega, by omega, g3⟩, by omega⟩
   ·by_cases c2 : idxA l (l.getD i.toNat default).p < 0
    ·rw [show noPar l (l.getD i.toNat default) = true from decide_eq_true ⟨c1, c2⟩, Bool.true_or] at g3
     rw [if_pos g3.symm]
     simp (maxSteps := 1000000) (disch := (first | omega | assumption)) only [go_sem]
     refine CALL_det hc (.inl rfl) ?_
     simp (maxSteps := 1000000) (disch := (first | omega | assumption)) only [go_sem]
    ·rw [show noPar l (l.getD i.toNat default) = false from decide_eq_false (fun h => c2 h.2), Bool.false_or] at g3
     simp (maxSteps := 1000000) (disch := (first | omega | assumption)) only [go_sem]
     refine CALL_det hc (.inl rfl) ?_
     simp (maxSteps := 1000000) (disch := (first | omega | assumption)) only [go_sem]
     exact ⟨i + 1, rfl, ⟨by omega, by omega, g3⟩, by omega⟩
  ·rw [List.drop_eq_nil_of_le (by omega), List.any_nil] at g3
   have hno : ∀ x ∈ l, x.p ≠ emp → 0 ≤ idxA l x.p ∧ idxA l x.p < l.length := fun x hx hp => by
    rcases idxA_rng l x.p with h | h
    ·have : l.any (noPar l) = true := List.any_eq_true.2 ⟨x, hx, decide_eq_true (p := x.p ≠ emp ∧ idxA l x.p < 0) ⟨hp, by omega⟩⟩
     rw [← g3] at this
     cases this
    ·exact h
   rw [if_neg (by rw [← g3]; simp)]
   clear g3
   simp (maxSteps := 1000000) (disch := (first | omega | assumption)) only [go_sem]
   refine ex_loop1 (af3St l) (fun i => 0 ≤ i ∧ i ≤ l.length ∧ ((l.drop i.toNat).any fun x => lpR l x.k l.length x) = (l.any fun x => lpR l x.k l.length x)) (fun i => (l.length - i).toNat) 0 ⟨by omega, by omega, rfl⟩ rfl ?_
   rintro i ⟨g1, g2, g3⟩
   unfold af3St
   by_cases hi : i < l.length
   ·have e2 : (i + 1).toNat = i.toNat + 1 := by omega
    have em := getD_map_at almS l i [] g1 hi
    have hxm := getD_mem l i.toNat (by omega)
    rw [drop_cons l i.toNat (by omega), List.any_cons, ← e2] at g3
    simp (maxSteps := 1000000) (disch := (first | omega | assumption)) only [go_sem]
    refine ex_loop2 (fun j y => af4St l i (l.getD i.toNat default) y j) (fun j y => 0 ≤ j ∧ j ≤ l.length ∧ y ∈ l ∧ lpR l (l.getD i.toNat default).k (l.length - j.toNat) y = lpR l (l.getD i.toNat default).k l.length (l.getD i.toNat default)) (fun j _ => (l.length - j).toNat) 0 (l.getD i.toNat default) ⟨by omega, by omega, hxm, by simp⟩ ?_ ?_
    ·unfold af4St; simp only [almS_eq]
    rintro j y ⟨h1, h2, h3, h4⟩
    generalize l.getD i.toNat default = x at *
    unfold af4St
    by_cases hj : j < l.length
    ·rw [show l.length - j.toNat = (l.length - (j + 1).toNat) + 1 by omega, lpR] at h4
     by_cases c1 : y.p = emp
     ·rw [if_pos c1] at h4
      rw [← h4, Bool.false_or] at g3
      simp (maxSteps := 1000000) (disch := (first | omega | assumption)) only [go_sem]
      exact ⟨i + 1, rfl, ⟨by omega, by omega, g3⟩, by omega⟩
     ·rw [if_neg c1] at h4
      have hix := hno y h3 c1
      have hc := alarmOf_fc y.p l hl
      have ey := getD_map_at almS l (idxA l y.p) [] hix.1 hix.2
      have hpm : parO l y ∈ l := getD_mem l _ (by omega)
      have epo : l.getD (idxA l y.p).toNat default = parO l y := rfl
      rw [← epo] at h4 hpm
      by_cases c2 : (l.getD (idxA l y.p).toNat default).k = x.k
      ·rw [if_pos c2] at h4
       rw [← h4, Bool.true_or] at g3
       rw [if_pos g3.symm]
       simp (maxSteps := 1000000) (disch := (first | omega | assumption)) only [go_sem]
       refine CALL_det hc (.inl rfl) ?_
       simp (maxSteps := 1000000) (disch := (first | omega | assumption)) only [go_sem]
      ·rw [if_neg c2] at h4
       simp (maxSteps := 1000000) (disch := (first | omega | assumption)) only [go_sem]
       refine CALL_det hc (.inl rfl) ?_
       simp (maxSteps := 1000000) (disch := (first | omega | assumption)) only [go_sem]
       exact ⟨j + 1, l.getD (idxA l y.p).toNat default, by simp only [almS_eq], ⟨by omega, by omega, hpm, h4⟩, by omega⟩
    ·rw [show l.length - j.toNat = 0 by omega, lpR] at h4
     rw [← h4, Bool.false_or] at g3
     simp (maxSteps := 1000000) (disch := (first | omega | assumption)) only [go_sem]
     exact ⟨i + 1, rfl, ⟨by omega, by omega, g3⟩, by omega⟩
   ·rw [List.drop_eq_nil_of_le (by omega), List.any_nil] at g3
    rw [if_neg (by rw [← g3]; simp)]
    simp (maxSteps := 1000000) (disch := (first | omega | assumption)) only [go_sem]
theorem alarmsFault_fc (l : List Alm) (hl : l.length ≤ 1000000) (hsm : ∀ x ∈ l, x.sm) : FC Tryz.prog 12 none [alms false l] (fun _ r => r = iv (afF l)) :=
 alarmsFaultB_fc l hl fun x hx => by have h := hsm x hx; unfold Alm.sm at h; omega
end Go.Proofs.YtfgkpbkphmeigaaGreatDoor

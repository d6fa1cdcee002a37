/-
 slices.Concat of two lists of acts.
-/
import Derived.Test.YtfgkpbkphmeigaaGreatDoorGrw
import Derived.Test.YtfgkpbkphmeigaaGreatDoorOpv
namespace Go.Proofs.YtfgkpbkphmeigaaGreatDoor
open Go Go.Ai
set_option linter.unusedSimpArgs false
set_option linter.unusedVariables false
set_option maxHeartbeats 4000000
def C_cct : AC := (.seq (.reg false [gI 2 (.mv (.v (.slice none 0 0)))] (kP [0] [] [5000]))
 (.seq (.reg false [gI 3 (.mv (oI 0))] (kP [0,3] [] [5000]))
 (.seq (.seq (.reg false [gM 9 0,gI 10 (.len (.t 9)),gI 11 (.mv (oI 0))] (kP [0,3,9,10,11] [] [5000]))
 (.block 0 (.loop (.seq (.reg false [gI 12 (.bin .lss (.t 11) (.t 10))] (kP [0,3,9,10,11,12] [] [5000]))
 (.seq (.cond (.t 12)
 .skip
 (.exit 0))
 (.seq (.block 1 (.seq (.reg false [gI 13 (.iadr 1 (.t 9) (.t 11)),gI 14 (.load false 1 (.t 13)),gM 5 14] (kP [0,3,5,9,10,11] [] [5000]))
 (.seq (.reg false [gM 15 3,gM 16 5,gI 17 (.len (.t 16)),gI 18 (.bin .add (.t 15) (.t 17)),gM 3 18] (kP [0,3,9,10,11] [] [5000]))
 (.seq (.reg false [gM 19 3,gI 20 (.bin .lss (.t 19) (oI 0))] (kP [0,3,9,10,11,20] [] [5000]))
 (.cond (.t 20)
 (.reg false [gI 21 (.un .neg (.f 0)),gN (.un .neg (.f 0))] (kP [0,3,9,10,11] [] [5000]))
 .skip)))))
 (.reg false [gI 22 (.bin .add (.t 11) (oI 1)),gM 11 22] (kP [0,3,9,10,11] [] [5000]))))))))
 (.seq (.reg false [gM 23 3,gI 24 (.callm (.f 184) [(.v (.slice none 0 0)),(.t 23)] ⟨[],[],[],[5000],[]⟩),gM 6 24] (kP [0,6] [] [5000]))
 (.seq (.seq (.reg false [gM 25 0,gI 26 (.len (.t 25)),gI 27 (.mv (oI 0))] (kP [6,25,26,27] [] [5000]))
 (.block 2 (.loop (.seq (.reg false [gI 28 (.bin .lss (.t 27) (.t 26))] (kP [6,25,26,27,28] [] [5000]))
 (.seq (.cond (.t 28)
 .skip
 (.exit 2))
 (.seq (.block 3 (.seq (.reg false [gI 29 (.iadr 1 (.t 25) (.t 27)),gI 30 (.load false 1 (.t 29)),gM 8 30] (kP [6,8,25,26,27] [] [5000]))
 (.reg false [gM 31 6,gM 32 8,gI 33 (.append 34 6 64 (.t 31) (.t 32)),gM 6 33] (kP [6,25,26,27] [] [5000]))))
 (.reg false [gI 34 (.bin .add (.t 27) (oI 1)),gM 27 34] (kP [6,25,26,27] [] [5000]))))))))
 (.seq (.reg false [gM 35 6,gM 2 35] (kP [2] [] [5000]))
 .ret))))))
theorem fcm_cct : FmT Tryz.prog 89 Tryz.f89 C_cct [.t 2] := fcm_mk [aN [0] [] [5000],aN [0,3] [] [5000],aN [0,3,9,10,11] [] [5000],aN [0,3,9,10,11,12] [] [5000],aN [0,3,5,9,10,11] [] [5000],aN [0,3,9,10,11] [] [5000],aN [0,3,9,10,11,20] [] [5000],aN [0,3,9,10,11] [] [5000],aN [0,3,9,10,11] [] [5000],⟨(kP [0,6] [] [5000]),[],[],[],[(24,⟨[],[],[],[5000],[]⟩)]⟩,aN [6,25,26,27] [] [5000],aN [6,25,26,27,28] [] [5000],aN [6,8,25,26,27] [] [5000],aN [6,25,26,27] [] [5000],aN [6,25,26,27] [] [5000],aN [2] [] [5000]] Tryz.func89 (by kernel_rfl)
theorem gdC0 (x y : List Cel) : [x, y].getD (Int.toNat 0) [] = x := rfl
theorem gdC1 (x y : List Cel) : [x, y].getD (0 + 1 : Int).toNat [] = y := rfl
attribute [local go_sem] gdC0 gdC1
theorem cct_fcm (l m : List Opr) (hl : l.length ≤ 2000) (hm : m.length ≤ 2000) : FCM Tryz.prog 89 ⟨[], []⟩ [.one (.sl false 1 [[.sl false 6 (l.map oprS)], [.sl false 6 (m.map oprS)]])] (fun H r => H = ⟨[], [(5000, opRow (l ++ m))]⟩ ∧ r = .one (.ow 5000 0)) := by
 refine fcm_cct (K := ⟨[], [], [5000]⟩) (by simp +arith) (by simp) (by simp) ?_
 unfold C_cct
 simp (maxSteps := 1000000) (disch := omega) only [go_sem]
 refine ex_rnd 3 ?_
 simp (maxSteps := 1000000) (disch := omega) only [go_sem]
 have hg := grow_fcms 5000 (l.length + m.length) rfl (by omega)
 rw [show ((l.length + m.length : Nat) : Int) = 0 + l.length + m.length by simp] at hg
 refine ⟨rfl, CALLM_det hg ⟨rfl, rfl⟩ ?_⟩
 simp (maxSteps := 1000000) (disch := omega) only [go_sem]
 refine ex_rnd 3 ?_
 simp (maxSteps := 1000000) (disch := omega) only [go_sem]
 simp [opRow]
theorem opr_ext {x y : Opr} (h1 : x.b = y.b) (h2 : x.no = y.no) (h3 : x.at_ = y.at_) (h4 : x.kd = y.kd) (h5 : x.al = y.al) (h6 : x.un = y.un) : x = y := by
 cases x; cases y; simp at h1 h2 h3 h4 h5 h6; simp [h1, h2, h3, h4, h5, h6]
end Go.Proofs.YtfgkpbkphmeigaaGreatDoor

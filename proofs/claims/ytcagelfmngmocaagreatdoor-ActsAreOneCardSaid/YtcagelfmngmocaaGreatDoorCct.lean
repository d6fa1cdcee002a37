
/-
 slices.Concat of two lists of acts.
-/
import Derived.Test.YtcagelfmngmocaaGreatDoorGrw
import Derived.Test.YtcagelfmngmocaaGreatDoorOsm
namespace Go.Proofs.YtcagelfmngmocaaGreatDoor
open Go Go.Ai
set_option linter.unusedSimpArgs false
set_option linter.unusedVariables false
set_option maxHeartbeats 4000000
def C_cct : AC := (.seq (.reg false [gI 2 (.mv (.v (.slice none 0 0)))] (kP [0] [] [5000]))
 (.seq (.reg false [gI 3 (.mv (oI 0))] (kP [0,3] [] [5000]))
 (.seq (.seq (.reg false [gM 9 0,gI 10 (.len (.t 9)),gI 11 (.mv (oI 0))] (kP [0,3,9,10,11] [] [5000]))
 (.block 0 (.loop (.seq (.reg false [gI 12 (.bin .lss (.t 11) (.t 10))] (kP [0,3,9,10,11,12] [] [5000]))
 (.seq (.cond (.t 12)
 .skip
 (.exit 0))
 (.seq (.block 1 (.seq (.reg false [gI 13 (.iadr 1 (.t 9) (.t 11)),gI 14 (.load false 1 (.t 13)),gM 5 14] (kP [0,3,5,9,10,11] [] [5000]))
 (.seq (.reg false [gM 15 3,gM 16 5,gI 17 (.len (.t 16)),gI 18 (.bin .add (.t 15) (.t 17)),gM 3 18] (kP [0,3,9,10,11] [] [5000]))
 (.seq (.reg false [gM 19 3,gI 20 (.bin .lss (.t 19) (oI 0))] (kP [0,3,9,10,11,20] [] [5000]))
 (.cond (.t 20)
 (.reg false [gI 21 (.un .neg (.f 0)),gN (.un .neg (.f 0))] (kP [0,3,9,10,11] [] [5000]))
 .skip)))))
 (.reg false [gI 22 (.bin .add (.t 11) (oI 1)),gM 11 22] (kP [0,3,9,10,11] [] [5000]))))))))
 (.seq (.reg false [gM 23 3,gI 24 (.callm (.f 116) [(.v (.slice none 0 0)),(.t 23)] ⟨[],[],[],[5000],[]⟩),gM 6 24] (kP [0,6] [] [5000]))
 (.seq (.seq (.reg false [gM 25 0,gI 26 (.len (.t 25)),gI 27 (.mv (oI 0))] (kP [6,25,26,27] [] [5000]))
 (.block 2 (.loop (.seq (.reg false [gI 28 (.bin .lss (.t 27) (.t 26))] (kP [6,25,26,27,28] [] [5000]))
 (.seq (.cond (.t 28)
 .skip
 (.exit 2))
 (.seq (.block 3 (.seq (.reg false [gI 29 (.iadr 1 (.t 25) (.t 27)),gI 30 (.load false 1 (.t 29)),gM 8 30] (kP [6,8,25,26,27] [] [5000]))
 (.reg false [gM 31 6,gM 32 8,gI 33 (.append 56 6 64 (.t 31) (.t 32)),gM 6 33] (kP [6,25,26,27] [] [5000]))))
 (.reg false [gI 34 (.bin .add (.t 27) (oI 1)),gM 27 34] (kP [6,25,26,27] [] [5000]))))))))
 (.seq (.reg false [gM 35 6,gM 2 35] (kP [2] [] [5000]))
 .ret))))))
theorem fcm_cct : FmT Tryz.prog 57 Tryz.f57 C_cct [.t 2] := fcm_mk [aN [0] [] [5000],aN [0,3] [] [5000],aN [0,3,9,10,11] [] [5000],aN [0,3,9,10,11,12] [] [5000],aN [0,3,5,9,10,11] [] [5000],aN [0,3,9,10,11] [] [5000],aN [0,3,9,10,11,20] [] [5000],aN [0,3,9,10,11] [] [5000],aN [0,3,9,10,11] [] [5000],⟨(kP [0,6] [] [5000]),[],[],[],[(24,⟨[],[],[],[5000],[]⟩)]⟩,aN [6,25,26,27] [] [5000],aN [6,25,26,27,28] [] [5000],aN [6,8,25,26,27] [] [5000],aN [6,25,26,27] [] [5000],aN [6,25,26,27] [] [5000],aN [2] [] [5000]] Tryz.func57 (by kernel_rfl)
theorem gd0 (x y : List Cel) : [x, y].getD (Int.toNat 0) [] = x := rfl
theorem gd1 (x y : List Cel) : [x, y].getD (0 + 1 : Int).toNat [] = y := rfl
attribute [local go_sem] gd0 gd1
theorem cctN_fcm (l : List Opr) (hl : l.length ≤ 2000) : FCM Tryz.prog 57 ⟨[], []⟩ [.one (.sl false 1 [[.sl false 6 (l.map oprS)], [.g (.slice none 0 0)]])] (fun H r => H = ⟨[], [(5000, opRow l)]⟩ ∧ r = .one (.ow 5000 0)) := by
 refine fcm_cct (K := ⟨[], [], [5000]⟩) (by simp +arith) (by simp) (by simp) ?_
 unfold C_cct
 simp (maxSteps := 1000000) (disch := omega) only [go_sem]
 refine ex_rnd 3 ?_
 simp (maxSteps := 1000000) (disch := omega) only [go_sem]
 have hg := grow_fcms 5000 l.length (by omega)
 rw [show ((l.length : Nat) : Int) = 0 + l.length + ((0 : Nat) : Int) by simp] at hg
 refine ⟨rfl, CALLM_det hg ⟨rfl, rfl⟩ ?_⟩
 simp (maxSteps := 1000000) (disch := omega) only [go_sem]
 refine ex_rnd 3 ?_
 simp (maxSteps := 1000000) (disch := omega) only [go_sem]
 done
theorem cct_fcm (l m : List Opr) (hl : l.length ≤ 2000) (hm : m.length ≤ 2000) : FCM Tryz.prog 57 ⟨[], []⟩ [.one (.sl false 1 [[.sl false 6 (l.map oprS)], [.sl false 6 (m.map oprS)]])] (fun H r => H = ⟨[], [(5000, opRow (l ++ m))]⟩ ∧ r = .one (.ow 5000 0)) := by
 refine fcm_cct (K := ⟨[], [], [5000]⟩) (by simp +arith) (by simp) (by simp) ?_
 unfold C_cct
 simp (maxSteps := 1000000) (disch := omega) only [go_sem]
 refine ex_rnd 3 ?_
 simp (maxSteps := 1000000) (disch := omega) only [go_sem]
 have hg := grow_fcms 5000 (l.length + m.length) (by omega)
 rw [show ((l.length + m.length : Nat) : Int) = 0 + l.length + m.length by simp] at hg
 refine ⟨rfl, CALLM_det hg ⟨rfl, rfl⟩ ?_⟩
 simp (maxSteps := 1000000) (disch := omega) only [go_sem]
 refine ex_rnd 3 ?_
 simp (maxSteps := 1000000) (disch := omega) only [go_sem]
 simp [opRow]
def C_cpo : AC := (.seq (.reg false [gI 2 (.mv (.v (.slice none 0 0)))] (kP [0] [] [1000000]))
 (.seq (.seq (.reg false [gM 6 0,gI 7 (.len (.t 6)),gI 8 (.bin .lss (.t 7) (oI 2))] (kP [0,8] [] [1000000]))
 (.cond (.t 8)
 (.seq (.reg false [gM 9 0,gM 2 9] (kP [2] [] [1000000]))
 .ret)
 .skip))
 (.seq (.seq (.reg false [gI 3 (.mv (oI 1))] (kP [0,3] [] [1000000]))
 (.block 0 (.loop (.seq (.seq (.reg false [gM 10 3,gM 11 0,gI 12 (.len (.t 11)),gI 13 (.bin .lss (.t 10) (.t 12))] (kP [0,3,13] [] [1000000]))
 (.cond (.t 13)
 .skip
 (.exit 0)))
 (.seq (.block 1 (.seq (.reg true [gM 16 0,gM 17 3,gI 18 (.iadr 6 (.t 16) (.t 17)),gI 19 (.load true 6 (.t 18)),gM 20 0,gM 21 3,gI 22 (.bin .sub (.t 21) (oI 1)),gI 23 (.iadr 6 (.t 20) (.t 22)),gI 24 (.load true 6 (.t 23)),gI 25 (.eqs false true [.s,.i .i64,.i .i64,.i .i64,.s,.i .i64] (.t 19) (.t 24))] (kP [0,3,25] [] [1000000]))
 (.cond (.t 25)
 (.seq (.reg false [gM 26 0,gM 27 3,gI 28 (.slc 6 (.t 26) (some (.t 27)) none),gM 4 28] (kP [0,3,4] [] [1000000]))
 (.seq (.seq (.reg false [gI 5 (.mv (oI 1))] (kP [0,3,4,5] [] [1000000]))
 (.block 2 (.loop (.seq (.seq (.reg false [gM 29 5,gM 30 4,gI 31 (.len (.t 30)),gI 32 (.bin .lss (.t 29) (.t 31))] (kP [0,3,4,5,32] [] [1000000]))
 (.cond (.t 32)
 .skip
 (.exit 2)))
 (.seq (.block 3 (.seq (.reg true [gM 35 4,gM 36 5,gI 37 (.iadr 6 (.t 35) (.t 36)),gI 38 (.load true 6 (.t 37)),gM 39 4,gM 40 5,gI 41 (.bin .sub (.t 40) (oI 1)),gI 42 (.iadr 6 (.t 39) (.t 41)),gI 43 (.load true 6 (.t 42)),gI 44 (.eqs true true [.s,.i .i64,.i .i64,.i .i64,.s,.i .i64] (.t 38) (.t 43))] (kP [0,3,4,5,44] [] [1000000]))
 (.cond (.t 44)
 (.seq (.reg false [gM 45 0,gM 46 3,gM 47 4,gM 48 5,gI 49 (.iadr 6 (.t 47) (.t 48)),gI 50 (.load true 6 (.t 49)),gI 51 (.iadr 6 (.t 45) (.t 46)),gN (.store 6 (.t 51) (.t 50))] (kP [0,3,4,5] [] [1000000]))
 (.reg false [gM 52 3,gI 53 (.bin .add (.t 52) (oI 1)),gM 3 53] (kP [0,3,4,5] [] [1000000])))
 .skip)))
 (.reg false [gM 33 5,gI 34 (.bin .add (.t 33) (oI 1)),gM 5 34] (kP [0,3,4,5] [] [1000000])))))))
 (.seq (.reg false [gM 54 0,gM 55 3,gI 56 (.slc 6 (.t 54) (some (.t 55)) none),gN (.clr 56 6 [(.string (ByteArray.mk #[])),(.int .i64 (0)),(.int .i64 (0)),(.int .i64 (0)),(.string (ByteArray.mk #[])),(.int .i64 (0))] (.t 56))] (kP [0,3] [] [1000000]))
 (.seq (.reg false [gM 57 0,gM 58 3,gI 59 (.slc 6 (.t 57) none (some (.t 58))),gM 2 59] (kP [2] [] [1000000]))
 .ret))))
 .skip)))
 (.reg false [gM 14 3,gI 15 (.bin .add (.t 14) (oI 1)),gM 3 15] (kP [0,3] [] [1000000])))))))
 (.seq (.reg false [gM 60 0,gM 2 60] (kP [2] [] [1000000]))
 .ret))))
theorem fcm_cpo : FmT Tryz.prog 60 Tryz.f60 C_cpo [.t 2] := fcm_mk [aN [0] [] [1000000],aN [0,8] [] [1000000],aN [2] [] [1000000],aN [0,3] [] [1000000],aN [0,3,13] [] [1000000],aN [0,3,25] [] [1000000],aN [0,3,4] [] [1000000],aN [0,3,4,5] [] [1000000],aN [0,3,4,5,32] [] [1000000],aN [0,3,4,5,44] [] [1000000],aN [0,3,4,5] [] [1000000],aN [0,3,4,5] [] [1000000],aN [0,3,4,5] [] [1000000],aN [0,3] [] [1000000],aN [2] [] [1000000],aN [0,3] [] [1000000],aN [2] [] [1000000]] Tryz.func60 (by kernel_rfl)
def cpoSt (i : Int) (l : List Opr) : AS := ⟨tabV [(0, .one (.ow 1000000 0)), (3, iv i)], tabO [], tabO [(1000000, opRow l)]⟩
theorem opr_ext {x y : Opr} (h1 : x.b = y.b) (h2 : x.no = y.no) (h3 : x.at_ = y.at_) (h4 : x.kd = y.kd) (h5 : x.al = y.al) (h6 : x.un = y.un) : x = y := by
 cases x; cases y; simp at h1 h2 h3 h4 h5 h6; simp [h1, h2, h3, h4, h5, h6]
/-- No two neighbours are alike. -/
theorem cpo_fcm (l : List Opr) (hl : l.length ≤ 4000) (hd : ∀ i : Nat, 0 < i → i < l.length → l.getD i default ≠ l.getD (i - 1) default) : FCM Tryz.prog 60 ⟨[], [(1000000, opRow l)]⟩ [.one (.ow 1000000 0)] (fun H r => H = ⟨[], [(1000000, opRow l)]⟩ ∧ r = .one (.ow 1000000 0)) := by
 refine fcm_cpo (K := ⟨[], [], [1000000]⟩) (by simp +arith) (by simp [XK]) (by simp [XK]) ?_
 unfold C_cpo
 by_cases h2 : l.length < 2
 ·simp (maxSteps := 1000000) (disch := omega) only [go_sem]
 ·simp (maxSteps := 1000000) (disch := omega) only [go_sem]
  refine ex_loopI (fun i : Int => cpoSt i l) (fun i => 1 ≤ i ∧ i ≤ l.length) (fun i => (l.length - i).toNat) 1 ⟨by omega, by omega⟩ rfl ?_
  rintro i ⟨i1, i2⟩
  unfold cpoSt
  by_cases hi : i < l.length
  ·simp (maxSteps := 1000000) (disch := omega) only [go_sem]
   have hne := hd i.toNat (by omega) (by omega)
   rw [show i.toNat - 1 = (i - 1).toNat by omega] at hne
   exact ⟨fun ⟨e1, e2, e3, e4, e5, e6⟩ => absurd (opr_ext e1 e2 e3 e4 e5 e6) hne, fun _ => ⟨i + 1, ⟨by omega, by omega⟩, rfl, by omega⟩⟩
  ·simp (maxSteps := 1000000) (disch := omega) only [go_sem]
end Go.Proofs.YtcagelfmngmocaaGreatDoor

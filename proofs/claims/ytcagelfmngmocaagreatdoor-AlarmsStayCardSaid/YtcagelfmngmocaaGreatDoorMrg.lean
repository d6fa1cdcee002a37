
/-
 Merge of acts and nothing.
-/
import Derived.Test.YtcagelfmngmocaaGreatDoorMrp
import Derived.Test.YtcagelfmngmocaaGreatDoorCct
import Derived.Test.YtcagelfmngmocaaGreatDoorOsm
namespace Go.Proofs.YtcagelfmngmocaaGreatDoor
open Go Go.Ai
set_option linter.unusedSimpArgs false
set_option linter.unusedVariables false
set_option maxHeartbeats 4000000
def C_mrgA : AC := (.seq (.reg false [gI 4 (.mv (.v (.slice none 0 0))),gI 5 (.mv (oI 0))] (kP [0,1] [] [5000]))
 (.seq (.seq (.reg false [gM 11 0,gI 12 (.call (.f 56) [(.t 11)]),gM 13 1,gI 14 (.call (.f 56) [(.t 13)]),gI 15 (.bslice 1 2 [(.t 12),(.t 14)]),gI 16 (.call (.f 55) [(.t 15)]),gM 6 16] (kP [0,1,6] [] [5000]))
 (.seq (.reg false [gM 17 6,gI 18 (.bin .neq (.t 17) (oI 0))] (kP [0,1,6,18] [] [5000]))
 (.cond (.t 18)
 (.seq (.seq (.reg false [gM 19 6,gI 4 (.mv (.v (.slice none 0 0))),gM 5 19] (kP [4,5] [] [5000]))
 (.ty 4 6))
 .ret)
 .skip)))
 (.seq (.reg false [gM 20 0,gM 21 1,gI 22 (.bslice 1 2 [(.t 20),(.t 21)]),gI 23 (.callm (.f 57) [(.t 22)] ⟨[],[],[],[5000],[]⟩),gM 7 23] (kP [7] [] [5000]))
 (.seq (.reg false [gM 24 7,gI 25 (.callm (.f 58) [(.t 24),(.f 59)] ⟨[],[5000],[],[5000],[5000]⟩)] (kP [7] [] [5000]))
 (.seq (.reg false [gM 26 7,gI 27 (.callm (.f 60) [(.t 26)] ⟨[],[5000],[],[5000],[]⟩),gM 7 27] (kP [7] [] [5000]))
 (.seq (.seq (.reg false [gM 28 7,gI 29 (.len (.t 28)),gI 30 (.mv (oI 0))] (kP [7,28,29,30] [] [5000]))
 (.block 0 (.loop (.seq (.reg false [gI 31 (.bin .lss (.t 30) (.t 29))] (kP [7,28,29,30,31] [] [5000]))
 (.seq (.cond (.t 31)
 .skip
 (.exit 0))
 (.seq (.block 1 (.seq (.reg false [gM 32 30,gI 33 (.iadr 6 (.t 28) (.t 30)),gI 34 (.load true 6 (.t 33)),gI 9 (.alloc [(.string (ByteArray.mk #[])),(.int .i64 (0)),(.int .i64 (0)),(.int .i64 (0)),(.string (ByteArray.mk #[])),(.int .i64 (0))]),gM 8 32,gN (.store 6 (.t 9) (.t 34))] (kP [7,8,9,28,29,30] [9] [5000]))
 (.seq (.reg true [gM 35 8,gI 36 (.bin .gtr (.t 35) (oI 0)),gM 37 36,gG 38 37 true (.load true 6 (.t 9)),gG 39 37 true (.mv (.t 7)),gG 40 37 true (.mv (.t 8)),gG 41 37 true (.bin .sub (.t 40) (oI 1)),gG 42 37 true (.iadr 6 (.t 39) (.t 41)),gG 43 37 true (.load true 6 (.t 42)),gG 44 37 true (.call (.f 59) [(.t 38),(.t 43)]),gG 45 37 true (.bin .eql (.t 44) (oI 0)),gI 46 (.pick (.t 37) (.t 45) (.v (.bool false)))] (kP [7,28,29,30,46] [] [5000]))
 (.cond (.t 46)
 (.seq (.seq (.reg false [gI 4 (.mv (.v (.slice none 0 0))),gI 5 (.mv (oI 13))] (kP [4,5] [] [5000]))
 (.ty 4 6))
 .ret)
 .skip))))
 (.reg false [gI 47 (.bin .add (.t 30) (oI 1)),gM 30 47] (kP [7,28,29,30] [] [5000]))))))))
 (.seq (.seq (.reg false [gM 48 7,gI 49 (.call (.f 56) [(.t 48)]),gM 10 49] (kP [7,10] [] [5000]))
 (.seq (.reg false [gM 50 10,gI 51 (.bin .neq (.t 50) (oI 0))] (kP [7,10,51] [] [5000]))
 (.cond (.t 51)
 (.seq (.seq (.reg false [gM 52 10,gI 4 (.mv (.v (.slice none 0 0))),gM 5 52] (kP [4,5] [] [5000]))
 (.ty 4 6))
 .ret)
 .skip)))
 (.seq (.reg false [gM 53 7,gM 4 53,gI 5 (.mv (oI 0))] (kP [4,5] [] [5000]))
 .ret))))))))
theorem fcm_mrgA : FmT Tryz.prog 15 Tryz.f15 C_mrgA [.t 4, .t 5] := fcm_mk [aN [0,1] [] [5000],aN [0,1,6] [] [5000],aN [0,1,6,18] [] [5000],⟨(kP [4,5] [] [5000]),[],[],[(4,6)],[]⟩,⟨(kP [7] [] [5000]),[],[],[],[(23,⟨[],[],[],[5000],[]⟩)]⟩,⟨(kP [7] [] [5000]),[],[],[],[(25,⟨[],[5000],[],[5000],[5000]⟩)]⟩,⟨(kP [7] [] [5000]),[],[],[],[(27,⟨[],[5000],[],[5000],[]⟩)]⟩,aN [7,28,29,30] [] [5000],aN [7,28,29,30,31] [] [5000],aN [7,8,9,28,29,30] [9] [5000],aN [7,28,29,30,46] [] [5000],⟨(kP [4,5] [] [5000]),[],[],[(4,6)],[]⟩,aN [7,28,29,30] [] [5000],aN [7,10] [] [5000],aN [7,10,51] [] [5000],⟨(kP [4,5] [] [5000]),[],[],[(4,6)],[]⟩,aN [4,5] [] [5000]] Tryz.func15 (by kernel_rfl)
def mgSt (i : Int) (l : List Opr) : AS := ⟨tabV [(7, .one (.ow 5000 0)), (28, .one (.ow 5000 0)), (29, iv l.length), (30, iv i)], tabO [], tabO [(5000, opRow l)]⟩
theorem actOk_nil : ActOk [] := ⟨by simp, fun i h => by simp at h, fun i h => by simp at h, fun i h => by simp at h⟩
theorem checkNil_fc : FC Tryz.prog 56 none [.one (.g (.slice none 0 0))] (fun _ r => r = iv 0) :=
 fc_nil (checkActs_fc [] actOk_nil (fun _ h => by simp at h)) rfl fun i x y hx hy => by
  cases i with
  | zero => cases hx; cases hy; exact .inr ⟨rfl, false, 6, rfl⟩
  | succ i => simp at hx
theorem up_ne {l : List Opr} (h : ActOk l) (i : Nat) (h0 : 0 < i) (hi : i < l.length) : 0 < cmpO (l.getD i default) (l.getD (i - 1) default) := by
 have := h.up (i - 1) (by omega)
 rw [show i - 1 + 1 = i by omega] at this
 rw [cmpO_anti]; omega
theorem mrgN_fcm (l : List Opr) (h : ActOk l) (hsm : ∀ x ∈ l, x.sm) (h8 : l.length ≤ 19) : FCM Tryz.prog 15 ⟨[], []⟩ [oprs false l, .one (.g (.slice none 0 0))] (fun H r => H = ⟨[], [(5000, opRow l)]⟩ ∧ r = .tu [.one (.ow 5000 0), iv 0]) := by
 refine fcm_mrgA (K := ⟨[], [], [5000]⟩) (by simp +arith) (by simp) (by simp) ?_
 have hl := h.len
 unfold C_mrgA
 simp (maxSteps := 1000000) (disch := omega) only [go_sem]
 refine CALL_det (checkActs_fc l h hsm) (.inl rfl) ?_
 simp (maxSteps := 1000000) (disch := omega) only [go_sem]
 refine CALL_det checkNil_fc (.inl rfl) ?_
 simp (maxSteps := 1000000) (disch := omega) only [go_sem]
 refine CALL_det (first_fc false [0, 0] (by simp)) (.inl rfl) ?_
 rw [show orSp [0, 0] = 0 from rfl]
 simp (maxSteps := 1000000) (disch := omega) only [go_sem]
 refine ⟨rfl, CALLM_det (cctN_fcm l hl) ⟨rfl, rfl⟩ ?_⟩
 simp (maxSteps := 1000000) (disch := omega) only [go_sem]
 have hso := ssfO_fcm 59 (swoO fun _ => True) (fun x y _ _ => byOp_fc x y) l (fun _ _ => trivial) (by omega)
 rw [ssort_self (up_ord h.up)] at hso
 refine ⟨rfl, CALLM_rnES ⟨[], [(5000, opRow l)]⟩ (.tu []) (fun k => k) (Go.Ai.swp 5000 1000000) (fun _ => rfl) (Go.Ai.swp_swp 5000 1000000) hso (by simp) rfl rfl rfl rfl rfl ⟨rfl, rfl⟩ ?_⟩
 simp (maxSteps := 1000000) (disch := omega) only [go_sem]
 refine ⟨rfl, CALLM_rnE ⟨[], [(5000, opRow l)]⟩ (.one (.ow 5000 0)) (fun k => k) (Go.Ai.swp 5000 1000000) (fun _ => rfl) (Go.Ai.swp_swp 5000 1000000) (cpo_fcm l (by omega) fun i h0 hi he => by
  have := up_ne h i h0 hi
  rw [he] at this
  exact absurd this (by have := cmpO_anti (l.getD (i - 1) default) (l.getD (i - 1) default); omega)) (by simp) rfl rfl rfl rfl ⟨rfl, rfl⟩ ?_⟩
 simp (maxSteps := 1000000) (disch := omega) only [go_sem]
 refine ex_loopI (fun i : Int => mgSt i l) (fun i => 0 ≤ i ∧ i ≤ l.length) (fun i => (l.length - i).toNat) 0 ⟨by omega, by omega⟩ rfl ?_
 rintro i ⟨i1, i2⟩
 unfold mgSt
 by_cases hi : i < l.length
 ·by_cases h0 : 0 < i
  ·simp (maxSteps := 1000000) (disch := omega) only [go_sem]
   refine CALL_det (byOp_fc _ _) (.inl rfl) ?_
   have hc := up_ne h i.toNat (by omega) (by omega)
   rw [show i.toNat - 1 = (i - 1).toNat by omega] at hc
   have hc0 : ¬cmpO (l.getD i.toNat default) (l.getD (i - 1).toNat default) = 0 := by omega
   simp (maxSteps := 1000000) (disch := omega) only [go_sem]
   exact ⟨i + 1, ⟨by omega, by omega⟩, rfl, by omega⟩
  ·simp (maxSteps := 1000000) (disch := omega) only [go_sem]
   exact ⟨i + 1, ⟨by omega, by omega⟩, rfl, by omega⟩
 ·simp (maxSteps := 1000000) (disch := omega) only [go_sem]
  refine CALL_det (checkActs_fc l h hsm) (.inl rfl) ?_
  simp (maxSteps := 1000000) (disch := omega) only [go_sem]
end Go.Proofs.YtcagelfmngmocaaGreatDoor


/-
 The mixer made, and the share that it tells.
-/
import Derived.Test.YtjamjffppcjeiaaGreatDoorMpt
namespace Go.Proofs.YtjamjffppcjeiaaGreatDoor
open Go Go.Ai
set_option linter.unusedSimpArgs false
set_option linter.unusedVariables false
set_option maxHeartbeats 4000000
def C_newMix : AC := (.seq (.reg false [gI 4 (.mv (.v (.pointer none)))] (kP [0,1] [11] [8,9]))
 (.seq (.reg false [gM 5 0,gI 6 (.call (.f 29) [(.t 5)]),gM 7 1,gI 8 (.mkm 0),gI 9 (.mkm 0),gI 10 (.build [(.map none),(.string (ByteArray.mk #[])),(.map none),(.map none)] [(0,1,(.t 6)),(1,1,(.t 7)),(2,1,(.t 8)),(3,1,(.t 9))]),gI 11 (.box (.t 10)),gM 4 11] (kP [4,11] [11] [8,9]))
 .ret))
theorem fcm_newMix : FmT Tryz.prog 32 Tryz.f32 C_newMix [.t 4] := fcm_mk [aN [0,1] [11] [8,9],aN [4,11] [11] [8,9]] Tryz.func32 (by kernel_rfl)
def C_mshare : AC := (.seq (.reg false [gI 4 (.alloc [(.int .i64 (0)),(.int .i64 (0))]),gI 5 (.mv (.v (.bool false)))] (kP [0,1,4,1000000] [4,1000000] [1000001,1000002]))
 (.seq (.reg false [gM 7 0,gM 8 1,gI 9 (.callm (.f 58) [(.t 7),(.t 8)] ⟨[1000000],[1000001,1000002],[1000000],[1000001,1000002],[1000001,1000002]⟩),gM 6 9] (kP [0,1,4,6,1000000] [4,1000000] [1000001,1000002]))
 (.seq (.seq (.reg false [gM 10 6,gI 11 (.bin .eql (.t 10) (oI 0))] (kP [0,1,4,6,11,1000000] [4,1000000] [1000001,1000002]))
 (.cond (.t 11)
 (.seq (.reg false [gI 12 (.build [(.int .i64 (0)),(.int .i64 (0))] []),gN (.store 2 (.t 4) (.t 12)),gI 5 (.mv (.v (.bool false)))] (kP [4,5] [4,1000000] [1000001,1000002]))
 .ret)
 .skip))
 (.seq (.reg false [gM 13 0,gM 14 1,gI 15 (.callm (.f 60) [(.t 13),(.t 14)] ⟨[1000000],[1000001,1000002],[1000000],[1000001,1000002],[1000001,1000002]⟩),gM 16 6,gI 17 (.call (.f 59) [(.t 15),(.t 16)]),gN (.store 2 (.t 4) (.t 17)),gI 5 (.mv (.v (.bool true)))] (kP [4,5] [4,1000000] [1000001,1000002]))
 .ret))))
theorem fcms_mshare : FsT Tryz.prog 33 Tryz.f33 C_mshare [.cell 4 true 2, .t 5] := fcms_mk [aN [0,1,4,1000000] [4,1000000] [1000001,1000002],⟨(kP [0,1,4,6,1000000] [4,1000000] [1000001,1000002]),[],[],[],[(9,⟨[1000000],[1000001,1000002],[1000000],[1000001,1000002],[1000001,1000002]⟩)]⟩,aN [0,1,4,6,11,1000000] [4,1000000] [1000001,1000002],aN [4,5] [4,1000000] [1000001,1000002],⟨(kP [4,5] [4,1000000] [1000001,1000002]),[],[],[],[(15,⟨[1000000],[1000001,1000002],[1000000],[1000001,1000002],[1000001,1000002]⟩)]⟩] Tryz.func33 (by kernel_rfl)
theorem newMix_fcm (l : List Trf) (hl : l.length ≤ 1000000) (src : ByteArray) : FCM Tryz.prog 32 ⟨[], []⟩ [trs false l, sv src] (fun H r => H = ⟨[(11, [.fm 0 (fmG (grpAll l)), .g (.string src), .mp 8, .mp 9])], [(8, mpRow []), (9, mpRow [])]⟩ ∧ r = .one (.bx 11 0)) := by
 refine fcm_newMix (K := ⟨[], [11], [8, 9]⟩) (by simp +arith) (by simp) (by simp) ?_
 unfold C_newMix
 simp (maxSteps := 1000000) (disch := omega) only [go_sem]
 refine CALL_det (into_fc false l hl) (.inr ⟨rfl, rfl⟩) ?_
 simp (maxSteps := 1000000) (disch := omega) only [go_sem]
 rfl
/-- A share, in lowest terms; 0/0 where the scale is too great. -/
def shN (l : List Trf) (src b : ByteArray) : Int := if SC l b = 0 then 0 else lowN (PT l src b) (SC l b)
def shD (l : List Trf) (src b : ByteArray) : Int := if SC l b = 0 then 0 else lowD (PT l src b) (SC l b)
theorem share_fcm {l : List Trf} (hf : Flo l) (src b : ByteArray) (sc pt : List (ByteArray × Int)) (hm : memS l sc) (hq : memP l src pt) :
  FCMS Tryz.prog 33 [1000001, 1000002] (mxH l src sc pt) [.one (.bx 1000000 0), sv b] (fun H r => ∃ sc' pt', H = mxH l src sc' pt' ∧ r = .tu [.ag [.g (.int .i64 (shN l src b)), .g (.int .i64 (shD l src b))], bv (decide (SC l b ≠ 0))]) := by
 refine fcms_mshare (K := ⟨[], [1000000], [1000001, 1000002]⟩) (by simp +arith) (by simp [XK]) (by simp [XK]) ?_
 unfold C_mshare
 have hbd := SC_bd hf _ b (Nat.lt_succ_self _)
 simp (maxSteps := 1000000) (disch := omega) only [go_sem]
 refine ⟨rfl, CALLM_R (scale_fcm hf src pt _ b sc (Nat.lt_succ_self _) hm) ⟨_, _, sc, hm, rfl, rfl⟩ ?_⟩
 rintro _ _ ⟨sc2, hm2, rfl, rfl⟩
 refine ⟨.inl ⟨rfl, rfl⟩, ?_⟩
 unfold shN shD
 by_cases h0 : SC l b = 0
 ·rw [if_pos h0, if_pos h0, decide_eq_false (by simpa using h0)]
  simp (maxSteps := 1000000) (disch := omega) only [go_sem]
  exact ⟨sc2, pt, rfl⟩
 ·rw [if_neg h0, if_neg h0, decide_eq_true (by simpa using h0)]
  have hp : 0 < SC l b := by omega
  have hpt := PT_bd hf src _ b (Nat.lt_succ_self _) hp
  simp (maxSteps := 1000000) (disch := omega) only [go_sem]
  refine ⟨rfl, CALLM_R (part_fcm hf src _ b sc2 pt (Nat.lt_succ_self _) hp hm2 hq) ⟨_, _, sc2, pt, hm2, hq, rfl, rfl⟩ ?_⟩
  rintro _ _ ⟨sc3, pt3, hm3, hq3, rfl, rfl⟩
  refine ⟨.inl ⟨rfl, rfl⟩, ?_⟩
  simp (maxSteps := 1000000) (disch := omega) only [go_sem]
  refine CALL_det (fraction_fc _ _ (by omega) (by omega) (by omega)) (.inl rfl) ?_
  simp (maxSteps := 1000000) (disch := omega) only [go_sem]
  exact ⟨sc3, pt3, rfl⟩
end Go.Proofs.YtjamjffppcjeiaaGreatDoor

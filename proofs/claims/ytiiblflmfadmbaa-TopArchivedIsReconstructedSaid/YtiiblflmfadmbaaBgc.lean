
/-
 slices.Concat of three pieces of bytes, the first two of them empty.
-/
import Derived.Test.YtiiblflmfadmbaaBgr
namespace Go.Proofs.Ytiiblflmfadmbaa
open Go Go.Ai
set_option linter.unusedSimpArgs false
set_option linter.unusedVariables false
set_option maxHeartbeats 4000000
def C_concat : AC := (.seq (.reg false [gI 2 (.mv (.v (.slice none 0 0)))] (kP [0] [] []))
 (.seq (.reg false [gI 3 (.mv (oI 0))] (kP [0,3] [] []))
 (.seq (.seq (.reg false [gM 9 0,gI 10 (.len (.t 9)),gI 11 (.mv (oI 0))] (kP [0,3,9,10,11] [] []))
 (.block 0 (.loop (.seq (.reg false [gI 12 (.bin .lss (.t 11) (.t 10))] (kP [0,3,9,10,11,12] [] []))
 (.seq (.cond (.t 12)
 .skip
 (.exit 0))
 (.seq (.block 1 (.seq (.reg false [gI 13 (.iadr 1 (.t 9) (.t 11)),gI 14 (.load false 1 (.t 13)),gM 5 14] (kP [0,3,5,9,10,11] [] []))
 (.seq (.reg false [gM 15 3,gM 16 5,gI 17 (.len (.t 16)),gI 18 (.bin .add (.t 15) (.t 17)),gM 3 18] (kP [0,3,9,10,11] [] []))
 (.seq (.reg false [gM 19 3,gI 20 (.bin .lss (.t 19) (oI 0))] (kP [0,3,9,10,11,20] [] []))
 (.cond (.t 20)
 (.reg false [gI 21 (.un .neg (.f 0)),gN (.un .neg (.f 0))] (kP [0,3,9,10,11] [] []))
 .skip)))))
 (.reg false [gI 22 (.bin .add (.t 11) (oI 1)),gM 11 22] (kP [0,3,9,10,11] [] []))))))))
 (.seq (.reg false [gM 23 3,gI 24 (.callm (.f 47) [(.v (.slice none 0 0)),(.t 23)] ⟨[],[],[],[600],[]⟩),gM 6 24] (kP [0,6] [] [600]))
 (.seq (.seq (.reg false [gM 25 0,gI 26 (.len (.t 25)),gI 27 (.mv (oI 0))] (kP [6,25,26,27] [] [600]))
 (.block 2 (.loop (.seq (.reg false [gI 28 (.bin .lss (.t 27) (.t 26))] (kP [6,25,26,27,28] [] [600]))
 (.seq (.cond (.t 28)
 .skip
 (.exit 2))
 (.seq (.block 3 (.seq (.reg false [gI 29 (.iadr 1 (.t 25) (.t 27)),gI 30 (.load false 1 (.t 29)),gM 8 30] (kP [6,8,25,26,27] [] [600]))
 (.reg false [gM 31 6,gM 32 8,gI 33 (.append 5 1 1 (.t 31) (.t 32)),gM 6 33] (kP [6,25,26,27] [] [600]))))
 (.reg false [gI 34 (.bin .add (.t 27) (oI 1)),gM 27 34] (kP [6,25,26,27] [] [600]))))))))
 (.seq (.reg false [gM 35 6,gM 2 35] (kP [2] [] []))
 .ret))))))
theorem fc_concat : FcT Try.prog 25 Try.f25 C_concat [.t 2] := fc_mk [aN [0] [] [],aN [0,3] [] [],aN [0,3,9,10,11] [] [],aN [0,3,9,10,11,12] [] [],aN [0,3,5,9,10,11] [] [],aN [0,3,9,10,11] [] [],aN [0,3,9,10,11,20] [] [],aN [0,3,9,10,11] [] [],aN [0,3,9,10,11] [] [],⟨(kP [0,6] [] [600]),[],[],[],[(24,⟨[],[],[],[600],[]⟩)]⟩,aN [6,25,26,27] [] [600],aN [6,25,26,27,28] [] [600],aN [6,8,25,26,27] [] [600],aN [6,25,26,27] [] [600],aN [6,25,26,27] [] [600],aN [2] [] []] Try.func25 (by kernel_rfl)
theorem gd_b {α : Type} (e f : α) (r : List α) (d : α) : (e :: f :: r).getD ((0 : Int) + 1).toNat d = f := rfl
theorem gd_c {α : Type} (e f g : α) (r : List α) (d : α) : (e :: f :: g :: r).getD ((0 : Int) + 1 + 1).toNat d = g := rfl
attribute [local go_sem] Nat.zero_lt_one gd_0 gd_b gd_c
def ccP (f1 f2 : Bool) (B : List Int) : List (List Cel) := [[.g (.slice none 0 0)], [.sl f1 1 []], [.sl f2 1 (B.map u8C)]]
theorem concat_fc (f1 f2 : Bool) (B : List Int) (h1 : 1 ≤ B.length) (hB : B.length ≤ 1000000) :
  FC Try.prog 25 none [.one (.sl false 1 (ccP f1 f2 B))] (fun _ r => r = bysV true B) := by
 refine fc_concat (by simp +arith) ?_
 have hg := grow_fcm B.length h1 hB
 unfold C_concat ccP
 simp (maxSteps := 1000000) (disch := (first | omega | assumption)) only [go_sem]
 refine ex_rnd 4 ?_
 simp (maxSteps := 1000000) (disch := (first | omega | assumption)) only [go_sem]
 rw [show (0 : Int) + ((0 : Nat) : Int) + ((0 : Nat) : Int) + (B.length : Int) = B.length by omega]
 refine ⟨rfl, CALLM_det hg ⟨rfl, rfl⟩ ?_⟩
 simp (maxSteps := 1000000) (disch := (first | omega | assumption)) only [go_sem]
 refine ex_rnd 4 ?_
 simp (maxSteps := 1000000) (disch := (first | omega | assumption)) only [go_sem]
end Go.Proofs.Ytiiblflmfadmbaa


/-
 Append: a series becomes a file of one block.
-/
import Derived.Test.YtiiblflmfadmbaaBlo
import Derived.Test.YtiiblflmfadmbaaBgc
namespace Go.Proofs.Ytiiblflmfadmbaa
open Go Go.Ai
set_option linter.unusedSimpArgs false
set_option linter.unusedVariables false
set_option maxHeartbeats 4000000
def C_append : AC := (.seq (.reg false [gI 6 (.mv (.v (.slice none 0 0))),gI 7 (.mv (oI 0))] (kP [0,1,2,500] [] []))
 (.seq (.reg false [gM 16 0,gM 17 1,gI 18 (.callm (.f 24) [(.t 16),(.t 17)] ⟨[],[],[500],[],[]⟩),gM 15 18,gI 19 (.extr (.t 15) 0),gI 20 (.extr (.t 15) 1),gM 8 19,gM 9 20] (kP [0,1,2,8,9,500] [500] []))
 (.seq (.seq (.reg false [gM 21 9,gI 22 (.bin .neq (.t 21) (oI 0))] (kP [0,1,2,8,9,22,500] [500] []))
 (.cond (.t 22)
 (.seq (.seq (.reg false [gM 23 9,gI 6 (.mv (.v (.slice none 0 0))),gM 7 23] (kP [6,7,500] [500] []))
 (.ty 6 1))
 .ret)
 .skip))
 (.seq (.seq (.reg false [gM 24 2,gI 25 (.call (.f 18) [(.t 24)]),gM 10 25] (kP [0,1,2,8,10,500] [500] []))
 (.seq (.reg false [gM 26 10,gI 27 (.bin .neq (.t 26) (oI 0))] (kP [0,1,2,8,10,27,500] [500] []))
 (.cond (.t 27)
 (.seq (.seq (.reg false [gM 28 10,gI 6 (.mv (.v (.slice none 0 0))),gM 7 28] (kP [6,7,500] [500] []))
 (.ty 6 1))
 .ret)
 .skip)))
 (.seq (.reg false [gI 11 (.mv (oI 0))] (kP [0,1,2,8,11,500] [500] []))
 (.seq (.seq (.reg false [gM 30 8,gI 31 (.nilchk (.t 30)),gI 32 (.fadr 3 (.t 31)),gI 33 (.load false 1 (.t 32)),gM 34 1,gI 35 (.mlk 0 (.int .i64 (0)) true 0 (.t 33) (.t 34)),gM 29 35,gI 36 (.extr (.t 29) 0),gI 37 (.extr (.t 29) 1),gM 12 36,gM 13 37] (kP [0,1,2,11,12,13,500] [] []))
 (.seq (.reg false [gM 38 13] (kP [0,1,2,11,12,38,500] [] []))
 (.cond (.t 38)
 (.block 0 (.loop (.seq (.seq (.reg false [gM 39 11,gM 40 2,gI 41 (.len (.t 40)),gI 42 (.bin .lss (.t 39) (.t 41)),gM 43 42,gG 44 43 true (.mv (.t 2)),gG 45 43 true (.mv (.t 11)),gG 46 43 true (.iadr 3 (.t 44) (.t 45)),gG 47 43 true (.fadr 0 (.t 46)),gG 48 43 true (.load false 1 (.t 47)),gG 49 43 true (.mv (.t 12)),gG 50 43 true (.bin .leq (.t 48) (.t 49)),gI 51 (.pick (.t 43) (.t 50) (.v (.bool false)))] (kP [0,1,2,11,12,51,500] [] []))
 (.cond (.t 51)
 .skip
 (.exit 0)))
 (.block 1 (.reg false [gM 52 11,gI 53 (.bin .add (.t 52) (oI 1)),gM 11 53] (kP [0,1,2,11,12,500] [] []))))))
 .skip)))
 (.seq (.reg true [gM 54 0,gM 55 1,gM 56 2,gM 57 11,gI 58 (.slc 3 (.t 56) none (some (.t 57))),gI 59 (.call (.f 26) [(.t 55),(.t 58),(.v (.bool true))]),gM 60 1,gM 61 2,gM 62 11,gI 63 (.slc 3 (.t 61) (some (.t 62)) none),gI 64 (.call (.f 26) [(.t 60),(.t 63),(.v (.bool false))]),gI 65 (.bslice 1 3 [(.t 54),(.t 59),(.t 64)]),gI 66 (.call (.f 25) [(.t 65)]),gM 14 66] (kP [14,500] [] []))
 (.seq (.seq (.reg false [gM 67 14,gI 68 (.len (.t 67)),gI 69 (.bin .gtr (.t 68) (oI 200000))] (kP [14,69,500] [] []))
 (.cond (.t 69)
 (.seq (.seq (.reg false [gI 6 (.mv (.v (.slice none 0 0))),gI 7 (.mv (oI 12))] (kP [6,7,500] [500] []))
 (.ty 6 1))
 .ret)
 .skip))
 (.seq (.reg false [gM 70 14,gM 6 70,gI 7 (.mv (oI 0))] (kP [6,7,500] [500] []))
 .ret)))))))))
theorem fc_append : FcT Try.prog 9 Try.f9 C_append [.t 6, .t 7] := fc_mk [aN [0,1,2,500] [] [],⟨(kP [0,1,2,8,9,500] [500] []),[],[],[],[(18,⟨[],[],[500],[],[]⟩)]⟩,aN [0,1,2,8,9,22,500] [500] [],⟨(kP [6,7,500] [500] []),[],[],[(6,1)],[]⟩,aN [0,1,2,8,10,500] [500] [],aN [0,1,2,8,10,27,500] [500] [],⟨(kP [6,7,500] [500] []),[],[],[(6,1)],[]⟩,aN [0,1,2,8,11,500] [500] [],aN [0,1,2,11,12,13,500] [] [],aN [0,1,2,11,12,38,500] [] [],aN [0,1,2,11,12,51,500] [] [],aN [0,1,2,11,12,500] [] [],aN [14,500] [] [],aN [14,69,500] [] [],⟨(kP [6,7,500] [500] []),[],[],[(6,1)],[]⟩,aN [6,7,500] [500] []] Try.func9 (by kernel_rfl)
theorem mgetF_nil (k : Value) : mgetF k [] = none := (rfl)
attribute [local go_sem] Nat.zero_lt_one mgetF_nil Option.getD_none Option.isSome_none Int.toNat_zero List.take_zero List.drop_zero
theorem Append_fc (l : List Smp) (hk : ∀ x ∈ l, okSmp x) (hl : l.length ≤ 100) (h1 : 1 ≤ l.length) (hs : serFault l = 0) :
  FC Try.prog 9 none [.one (.g (.slice none 0 0)), .one (.g (.string tgB)), smps false l] (fun _ r => r = .tu [bysV true (encS tgL false l), iv 0]) := by
 have hbl := bodyS_len tgL false l
 rw [show tgL.length = 3 from rfl] at hbl
 have hel : (encS tgL false l).length = (bodyS tgL false l).length + 2 := by unfold encS; simp
 have hcs := checkSeries_fc l (by omega)
 rw [hs] at hcs
 have hb := blocks_fc l hk h1 hl
 have hcc := fun f1 f2 => concat_fc f1 f2 (encS tgL false l) (by omega) (by omega)
 refine fc_append (by simp +arith) ?_
 have ht := tagged0_fcm
 unfold wk0C at ht
 unfold ccP at hcc
 generalize encS tgL false l = B at *
 unfold C_append
 simp (maxSteps := 1000000) (disch := (first | omega | assumption)) only [go_sem]
 refine ⟨rfl, CALLM_det ht ⟨rfl, rfl⟩ ?_⟩
 simp (maxSteps := 1000000) (disch := (first | omega | assumption)) only [go_sem]
 refine CALL_det hcs (.inl rfl) ?_
 simp (maxSteps := 1000000) (disch := (first | omega | assumption)) only [go_sem]
 refine CALL_det (blocks0_fc false true) (.inl rfl) ?_
 simp (maxSteps := 1000000) (disch := (first | omega | assumption)) only [go_sem]
 refine CALL_det hb (.inl rfl) ?_
 simp (maxSteps := 1000000) (disch := (first | omega | assumption)) only [go_sem]
 refine CALL_det (hcc _ _) (.inl rfl) ?_
 simp (maxSteps := 1000000) (disch := (first | omega | assumption)) only [go_sem]
end Go.Proofs.Ytiiblflmfadmbaa


/-
 Query: the samples of one block are queried as they were.
-/
import Derived.Test.YtiiblflmfadmbaaBlf
namespace Go.Proofs.Ytiiblflmfadmbaa
open Go Go.Ai
set_option linter.unusedSimpArgs false
set_option linter.unusedVariables false
set_option maxHeartbeats 4000000
def C_queryF : AC := (.seq (.reg false [gI 5 (.box (.t 2)),gI 6 (.mv (.v (.slice none 0 0))),gI 7 (.mv (oI 0))] (kP [0,1,5,500] [5] []))
 (.seq (.reg false [gM 12 0,gM 13 1,gI 14 (.callm (.f 24) [(.t 12),(.t 13)] ⟨[],[],[500],[],[]⟩),gM 11 14,gI 15 (.extr (.t 11) 0),gI 16 (.extr (.t 11) 1),gM 8 15,gM 9 16] (kP [1,5,8,9,500] [5,500] []))
 (.seq (.block 0 (.seq (.reg false [gM 18 9,gI 19 (.bin .neq (.t 18) (oI 0)),gM 17 19] (kP [1,5,8,9,17,500] [5,500] []))
 (.cond (.t 17)
 (.seq (.seq (.reg false [gM 20 9,gI 6 (.mv (.v (.slice none 0 0))),gM 7 20] (kP [6,7,500] [500] []))
 (.ty 6 3))
 .ret)
 (.seq (.reg false [gI 22 (.load true 2 (.t 5)),gI 23 (.call (.f 27) [(.t 22)]),gI 24 (.un .not (.t 23)),gM 21 24] (kP [1,5,8,21,500] [5,500] []))
 (.cond (.t 21)
 (.seq (.seq (.reg false [gI 6 (.mv (.v (.slice none 0 0))),gI 7 (.mv (oI 1))] (kP [6,7,500] [500] []))
 (.ty 6 3))
 .ret)
 .skip)))))
 (.seq (.reg false [gM 25 8,gM 26 1,gI 27 (.load true 2 (.t 5)),gI 28 (.callx (.f 28) [(.t 25),(.t 26),(.t 27)]),gM 10 28] (kP [10,500] [] []))
 (.seq (.seq (.reg false [gM 29 10,gI 30 (.len (.t 29)),gI 31 (.bin .gtr (.t 30) (oI 5000))] (kP [10,31,500] [] []))
 (.cond (.t 31)
 (.seq (.seq (.reg false [gI 6 (.mv (.v (.slice none 0 0))),gI 7 (.mv (oI 2))] (kP [6,7,500] [500] []))
 (.ty 6 3))
 .ret)
 .skip))
 (.seq (.reg false [gM 32 10,gM 6 32,gI 7 (.mv (oI 0))] (kP [6,7,500] [500] []))
 .ret))))))
theorem fc_queryF : FcT Try.prog 10 Try.f10 C_queryF [.t 6, .t 7] := fc_mk [aN [0,1,5,500] [5] [],⟨(kP [1,5,8,9,500] [5,500] []),[],[],[],[(14,⟨[],[],[500],[],[]⟩)]⟩,aN [1,5,8,9,17,500] [5,500] [],⟨(kP [6,7,500] [500] []),[],[],[(6,3)],[]⟩,aN [1,5,8,21,500] [5,500] [],⟨(kP [6,7,500] [500] []),[],[],[(6,3)],[]⟩,aN [10,500] [] [],aN [10,31,500] [] [],⟨(kP [6,7,500] [500] []),[],[],[(6,3)],[]⟩,aN [6,7,500] [500] []] Try.func10 (by kernel_rfl)
theorem Query_fc (l : List Smp) (hk : ∀ x ∈ l, okSmp x) (hl : l.length ≤ 100) (h1 : 1 ≤ l.length) (hs : serFault l = 0) (hnd : l.Pairwise fun x y => x.a < y.a) :
  FC Try.prog 10 none [bysV false (encS tgL false l), .one (.g (.string tgB)), winV 0 345686400000] (fun _ r => r = .tu [smps true l, iv 0]) := by
 have ht := tagged1_fcm l hk hl h1 hs
 have hok : ∀ x ∈ l, 0 ≤ x.a ∧ x.a < 345686400000 := fun x hx => by have := hk x hx; unfold okSmp at this; omega
 have hq := query_fc l h1 (by omega) hok hnd ((encS tgL false l).map u8C) (encS tgL false l).length [mtE l]
 have hw := window_fc 0 345686400000
 rw [show decide (winFault 0 345686400000 = 0) = true from by decide] at hw
 refine fc_queryF (by simp +arith) ?_
 rw [show wk1C l = [.sl false 1 ((encS tgL false l).map u8C), .g (.int .i64 (encS tgL false l).length), .sl true 8 [ptE l], .fm 0 [mtE l]] from rfl] at ht
 unfold wkQ at hq
 generalize ptE l = pe at *
 generalize mtE l = me at *
 generalize encS tgL false l = B at *
 unfold C_queryF
 simp (maxSteps := 1000000) (disch := (first | omega | assumption)) only [go_sem]
 refine ⟨rfl, CALLM_det ht ⟨rfl, rfl⟩ ?_⟩
 simp (maxSteps := 1000000) (disch := (first | omega | assumption)) only [go_sem]
 refine CALL_det hw (.inl rfl) ?_
 simp (maxSteps := 1000000) (disch := (first | omega | assumption)) only [go_sem]
 refine callx_det hq rfl rfl ?_
 simp (maxSteps := 1000000) (disch := (first | omega | assumption)) only [go_sem]
end Go.Proofs.Ytiiblflmfadmbaa

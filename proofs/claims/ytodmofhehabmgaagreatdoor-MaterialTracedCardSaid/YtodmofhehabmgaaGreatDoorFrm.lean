/-
 Frames: slices.DeleteFunc over windows, raw, Frames.
-/
import Derived.Test.YtodmofhehabmgaaGreatDoorCrs
namespace Go.Proofs.YtodmofhehabmgaaGreatDoor
open Go Go.Ai
set_option linter.unusedSimpArgs false
set_option linter.unusedVariables false
set_option maxHeartbeats 4000000
def C_delW : AC := (.seq (.reg false [gI 4 (.mv (.v (.slice none 0 0)))] (kP [0,1,1000001] [1000001] [1000000]))
 (.seq (.reg false [gM 8 0,gM 9 1,gI 10 (.call (.f 149) [(.t 8),(.t 9)]),gM 5 10] (kP [0,1,5,1000001] [1000001] [1000000]))
 (.seq (.seq (.reg false [gM 11 5,gI 12 (.bin .eql (.t 11) (oI (-1)))] (kP [0,1,5,12,1000001] [1000001] [1000000]))
 (.cond (.t 12)
 (.seq (.reg false [gM 13 0,gM 4 13] (kP [4] [1000001] [1000000]))
 .ret)
 .skip))
 (.seq (.seq (.reg false [gM 14 5,gI 15 (.bin .add (.t 14) (oI 1)),gM 6 15] (kP [0,1,5,6,1000001] [1000001] [1000000]))
 (.block 0 (.loop (.seq (.seq (.reg false [gM 16 6,gM 17 0,gI 18 (.len (.t 17)),gI 19 (.bin .lss (.t 16) (.t 18))] (kP [0,1,5,6,19,1000001] [1000001] [1000000]))
 (.cond (.t 19)
 .skip
 (.exit 0)))
 (.seq (.block 1 (.seq (.reg false [gM 22 0,gM 23 6,gI 24 (.iadr 2 (.t 22) (.t 23)),gI 25 (.load true 2 (.t 24)),gI 7 (.alloc [(.int .i64 (0)),(.int .i64 (0))]),gN (.store 2 (.t 7) (.t 25))] (kP [0,1,5,6,7,1000001] [7,1000001] [1000000]))
 (.seq (.reg false [gM 26 1,gI 27 (.load true 2 (.t 7)),gI 28 (.call (.t 26) [(.t 27)]),gI 29 (.un .not (.t 28))] (kP [0,1,5,6,7,29,1000001] [7,1000001] [1000000]))
 (.cond (.t 29)
 (.seq (.reg false [gM 30 0,gM 31 5,gI 32 (.load true 2 (.t 7)),gI 33 (.iadr 2 (.t 30) (.t 31)),gN (.store 2 (.t 33) (.t 32))] (kP [0,1,5,6,1000001] [1000001] [1000000]))
 (.reg false [gM 34 5,gI 35 (.bin .add (.t 34) (oI 1)),gM 5 35] (kP [0,1,5,6,1000001] [1000001] [1000000])))
 .skip))))
 (.reg false [gM 20 6,gI 21 (.bin .add (.t 20) (oI 1)),gM 6 21] (kP [0,1,5,6,1000001] [1000001] [1000000])))))))
 (.seq (.reg false [gM 36 0,gM 37 5,gI 38 (.sfx 2 (.t 36) (.t 37)),gN (.clr 118 2 [(.int .i64 (0)),(.int .i64 (0))] (.t 38))] (kP [0,5] [1000001] [1000000]))
 (.seq (.reg false [gM 39 0,gM 40 5,gI 41 (.trn 2 (.t 39) (.t 40)),gM 4 41] (kP [4] [1000001] [1000000]))
 .ret))))))
theorem fcm_delW : FmT Tryz.prog 111 Tryz.f111 C_delW [.t 4] := fcm_mk [aN [0,1,1000001] [1000001] [1000000],aN [0,1,5,1000001] [1000001] [1000000],aN [0,1,5,12,1000001] [1000001] [1000000],aN [4] [1000001] [1000000],aN [0,1,5,6,1000001] [1000001] [1000000],aN [0,1,5,6,19,1000001] [1000001] [1000000],aN [0,1,5,6,7,1000001] [7,1000001] [1000000],aN [0,1,5,6,7,29,1000001] [7,1000001] [1000000],aN [0,1,5,6,1000001] [1000001] [1000000],aN [0,1,5,6,1000001] [1000001] [1000000],aN [0,1,5,6,1000001] [1000001] [1000000],⟨(kP [0,5] [1000001] [1000000]),[],[],[],[(38,⟨[],[],[],[],[]⟩)]⟩,⟨(kP [4] [1000001] [1000000]),[],[],[],[(41,⟨[],[],[],[],[]⟩)]⟩] Tryz.func111 (by kernel_rfl)
def C_idxW : AC := (.seq (.reg false [gI 4 (.mv (oI 0))] (kP [0,1] [] []))
 (.seq (.seq (.reg false [gM 6 0,gI 7 (.len (.t 6)),gI 8 (.mv (oI 0))] (kP [0,1,7,8] [] []))
 (.block 0 (.loop (.seq (.reg false [gI 9 (.bin .lss (.t 8) (.t 7))] (kP [0,1,7,8,9] [] []))
 (.seq (.cond (.t 9)
 .skip
 (.exit 0))
 (.seq (.block 1 (.seq (.reg false [gM 10 8,gM 5 10] (kP [0,1,5,7,8] [] []))
 (.seq (.reg false [gM 11 1,gM 12 0,gM 13 5,gI 14 (.iadr 2 (.t 12) (.t 13)),gI 15 (.load true 2 (.t 14)),gI 16 (.call (.t 11) [(.t 15)])] (kP [0,1,5,7,8,16] [] []))
 (.cond (.t 16)
 (.seq (.reg false [gM 17 5,gM 4 17] (kP [4] [] []))
 .ret)
 .skip))))
 (.reg false [gI 18 (.bin .add (.t 8) (oI 1)),gM 8 18] (kP [0,1,7,8] [] []))))))))
 (.seq (.reg false [gI 4 (.mv (oI (-1)))] (kP [4] [] []))
 .ret)))
theorem fc_idxW : FcT Tryz.prog 149 Tryz.f149 C_idxW [.t 4] := fc_mk [aN [0,1] [] [],aN [0,1,7,8] [] [],aN [0,1,7,8,9] [] [],aN [0,1,5,7,8] [] [],aN [0,1,5,7,8,16] [] [],aN [4] [] [],aN [0,1,7,8] [] [],aN [4] [] []] Tryz.func149 (by kernel_rfl)
def C_frClos : AC := (.seq (.reg false [gI 2 (.box (.t 0)),gI 3 (.mv (.v (.bool false)))] (kP [1,2] [2] []))
 (.seq (.reg false [gI 4 (.fadr 1 (.t 2)),gI 5 (.load false 1 (.t 4)),gI 6 (.fadr 0 (.t 2)),gI 7 (.load false 1 (.t 6)),gI 8 (.bin .sub (.t 5) (.t 7)),gI 9 (.fadr 3 (.t 1)),gI 10 (.load false 1 (.t 9)),gI 11 (.bin .lss (.t 8) (.t 10)),gM 3 11] (kP [3] [] []))
 .ret))
theorem fc_frClos : FcT Tryz.prog 112 Tryz.f112 C_frClos [.t 3] := fc_mk [aN [1,2] [2] [],aN [3] [] []] Tryz.func112 (by kernel_rfl)
def C_checkTrigger : AC := (.seq (.reg false [gI 1 (.box (.t 0)),gI 2 (.mv (oI 0))] (kP [1] [1] []))
 (.seq (.seq (.reg false [gI 3 (.fadr 0 (.t 1)),gI 4 (.load false 1 (.t 3)),gI 5 (.call (.f 41) [(.t 4),(oI (-1000000)),(oI 1000000)]),gM 6 5,gG 7 6 false (.fadr 1 (.t 1)),gG 8 6 false (.load false 1 (.t 7)),gG 9 6 false (.fadr 0 (.t 1)),gG 10 6 false (.load false 1 (.t 9)),gG 11 6 false (.call (.f 41) [(.t 8),(oI (-1000000)),(.t 10)]),gI 12 (.pick (.t 6) (.v (.bool true)) (.t 11)),gM 13 12,gG 14 13 false (.fadr 2 (.t 1)),gG 15 13 false (.load false 1 (.t 14)),gG 16 13 false (.call (.f 41) [(.t 15),(oI 0),(oI 86400000)]),gI 17 (.pick (.t 13) (.v (.bool true)) (.t 16)),gM 18 17,gG 19 18 false (.fadr 3 (.t 1)),gG 20 18 false (.load false 1 (.t 19)),gG 21 18 false (.call (.f 41) [(.t 20),(oI 0),(oI 86400000)]),gI 22 (.pick (.t 18) (.v (.bool true)) (.t 21))] (kP [22] [] []))
 (.cond (.t 22)
 (.seq (.reg false [gI 2 (.mv (oI 1))] (kP [2] [] []))
 .ret)
 .skip))
 (.seq (.reg false [gI 2 (.mv (oI 0))] (kP [2] [] []))
 .ret)))
theorem fc_checkTrigger : FcT Tryz.prog 108 Tryz.f108 C_checkTrigger [.t 2] := fc_mk [aN [1] [1] [],aN [22] [] [],aN [2] [] [],aN [2] [] []] Tryz.func108 (by kernel_rfl)
def C_raw : AC := (.seq (.reg false [gI 3 (.box (.t 0)),gI 6 (.mv (.v (.slice none 0 0)))] (kP [1,2,3] [3] []))
 (.seq (.seq (.reg false [gI 7 (.mv (.v (.slice none 0 0)))] (kP [1,2,3,7] [3] []))
 (.own 7 118 2))
 (.seq (.reg false [gI 8 (.mv (.v (.bool false)))] (kP [1,2,3,7,8] [3] [7]))
 (.seq (.seq (.reg false [gM 11 1,gI 12 (.len (.t 11)),gI 13 (.mv (oI 0))] (kP [2,3,7,8,11,12,13] [3] [7]))
 (.block 0 (.loop (.seq (.reg false [gI 14 (.bin .lss (.t 13) (.t 12))] (kP [2,3,7,8,11,12,13,14] [3] [7]))
 (.seq (.cond (.t 14)
 .skip
 (.exit 0))
 (.seq (.block 1 (.seq (.reg false [gI 15 (.iadr 3 (.t 11) (.t 13)),gI 16 (.load true 3 (.t 15)),gI 10 (.alloc [(.int .i64 (0)),(.int .i64 (0)),(.int .i64 (0))]),gN (.store 3 (.t 10) (.t 16))] (kP [2,3,7,8,10,11,12,13] [3,10] [7]))
 (.block 2 (.seq (.reg false [gI 18 (.fadr 0 (.t 10)),gI 19 (.load false 1 (.t 18)),gM 20 2,gI 21 (.bin .geq (.t 19) (.t 20)),gM 22 21,gG 23 22 false (.fadr 2 (.t 10)),gG 24 22 false (.load false 1 (.t 23)),gG 25 22 false (.bin .eql (.t 24) (oI 2)),gI 26 (.pick (.t 22) (.v (.bool true)) (.t 25)),gM 17 26] (kP [2,3,7,8,10,11,12,13,17] [3,10] [7]))
 (.cond (.t 17)
 .skip
 (.seq (.reg false [gM 28 8,gI 29 (.un .not (.t 28)),gM 30 29,gG 31 30 true (.fadr 1 (.t 10)),gG 32 30 true (.load false 1 (.t 31)),gG 33 30 true (.fadr 0 (.t 3)),gG 34 30 true (.load false 1 (.t 33)),gG 35 30 true (.bin .geq (.t 32) (.t 34)),gI 36 (.pick (.t 30) (.t 35) (.v (.bool false))),gM 27 36] (kP [2,3,7,8,10,11,12,13,27] [3,10] [7]))
 (.cond (.t 27)
 (.seq (.reg false [gI 8 (.mv (.v (.bool true)))] (kP [2,3,7,8,10,11,12,13] [3,10] [7]))
 (.reg false [gM 37 7,gI 38 (.fadr 0 (.t 10)),gI 39 (.load false 1 (.t 38)),gM 40 2,gI 41 (.build [(.int .i64 (0)),(.int .i64 (0))] [(0,1,(.t 39)),(1,1,(.t 40))]),gI 42 (.bslice 2 1 [(.t 41)]),gI 43 (.append 118 2 16 (.t 37) (.t 42)),gM 7 43] (kP [2,3,7,8,11,12,13] [3] [7])))
 (.seq (.reg false [gM 45 8,gM 46 45,gG 47 46 true (.fadr 1 (.t 10)),gG 48 46 true (.load false 1 (.t 47)),gG 49 46 true (.fadr 1 (.t 3)),gG 50 46 true (.load false 1 (.t 49)),gG 51 46 true (.bin .lss (.t 48) (.t 50)),gI 52 (.pick (.t 46) (.t 51) (.v (.bool false))),gM 44 52] (kP [2,3,7,8,10,11,12,13,44] [3,10] [7]))
 (.cond (.t 44)
 (.seq (.reg false [gI 8 (.mv (.v (.bool false)))] (kP [2,3,7,8,10,11,12,13] [3,10] [7]))
 (.reg false [gM 53 7,gM 54 7,gI 55 (.len (.t 54)),gI 56 (.bin .sub (.t 55) (oI 1)),gI 57 (.fadr 0 (.t 10)),gI 58 (.load false 1 (.t 57)),gI 59 (.iadr 2 (.t 53) (.t 56)),gI 60 (.fadr 1 (.t 59)),gN (.store 1 (.t 60) (.t 58))] (kP [2,3,7,8,11,12,13] [3] [7])))
 .skip)))))))))
 (.reg false [gI 61 (.bin .add (.t 13) (oI 1)),gM 13 61] (kP [2,3,7,8,11,12,13] [3] [7]))))))))
 (.seq (.reg false [gM 62 7,gM 6 62] (kP [6] [] []))
 .ret)))))
theorem fc_raw : FcT Tryz.prog 110 Tryz.f110 C_raw [.t 6] := fc_mk [aN [1,2,3] [3] [],⟨(kP [1,2,3,7] [3] []),[(7,118,2)],[],[],[]⟩,aN [1,2,3,7,8] [3] [7],aN [2,3,7,8,11,12,13] [3] [7],aN [2,3,7,8,11,12,13,14] [3] [7],aN [2,3,7,8,10,11,12,13] [3,10] [7],aN [2,3,7,8,10,11,12,13,17] [3,10] [7],aN [2,3,7,8,10,11,12,13,27] [3,10] [7],aN [2,3,7,8,10,11,12,13] [3,10] [7],aN [2,3,7,8,11,12,13] [3] [7],aN [2,3,7,8,10,11,12,13,44] [3,10] [7],aN [2,3,7,8,10,11,12,13] [3,10] [7],aN [2,3,7,8,11,12,13] [3] [7],aN [2,3,7,8,11,12,13] [3] [7],aN [6] [] []] Tryz.func110 (by kernel_rfl)
def C_frames : AC := (.seq (.reg false [gI 3 (.box (.t 0)),gI 6 (.mv (.v (.slice none 0 0))),gI 7 (.mv (oI 0))] (kP [1,2,3] [3] []))
 (.seq (.seq (.reg false [gI 13 (.load true 4 (.t 3)),gI 14 (.call (.f 108) [(.t 13)]),gM 15 1,gI 16 (.call (.f 109) [(.t 15)]),gI 17 (.bslice 1 2 [(.t 14),(.t 16)]),gI 18 (.call (.f 107) [(.t 17)]),gM 8 18] (kP [1,2,3,8] [3] []))
 (.seq (.reg false [gM 19 8,gI 20 (.bin .neq (.t 19) (oI 0))] (kP [1,2,3,8,20] [3] []))
 (.cond (.t 20)
 (.seq (.seq (.reg false [gM 21 8,gI 6 (.mv (.v (.slice none 0 0))),gM 7 21] (kP [3,6,7] [3] []))
 (.ty 6 2))
 .ret)
 .skip)))
 (.seq (.seq (.reg false [gM 22 2,gI 23 (.call (.f 41) [(.t 22),(oI 0),(oI 345686400000)])] (kP [1,2,3,23] [3] []))
 (.cond (.t 23)
 (.seq (.seq (.reg false [gI 6 (.mv (.v (.slice none 0 0))),gI 7 (.mv (oI 1))] (kP [3,6,7] [3] []))
 (.ty 6 2))
 .ret)
 .skip))
 (.seq (.seq (.reg false [gI 9 (.mv (.v (.slice none 0 0)))] (kP [1,2,3,9] [3] []))
 (.own 9 118 2))
 (.seq (.seq (.reg false [gI 24 (.load true 4 (.t 3)),gM 25 1,gM 26 2,gI 27 (.call (.f 110) [(.t 24),(.t 25),(.t 26)]),gI 28 (.len (.t 27)),gI 29 (.mv (oI 0))] (kP [3,9,27,28,29] [3] [9]))
 (.block 0 (.loop (.seq (.reg false [gI 30 (.bin .lss (.t 29) (.t 28))] (kP [3,9,27,28,29,30] [3] [9]))
 (.seq (.cond (.t 30)
 .skip
 (.exit 0))
 (.seq (.block 1 (.seq (.reg false [gI 31 (.iadr 2 (.t 27) (.t 29)),gI 32 (.load true 2 (.t 31)),gI 11 (.alloc [(.int .i64 (0)),(.int .i64 (0))]),gN (.store 2 (.t 11) (.t 32))] (kP [3,9,11,27,28,29] [3,11] [9]))
 (.seq (.reg false [gM 33 9,gI 34 (.len (.t 33)),gI 35 (.bin .sub (.t 34) (oI 1)),gM 12 35] (kP [3,9,11,12,27,28,29] [3,11] [9]))
 (.seq (.reg true [gM 36 12,gI 37 (.bin .geq (.t 36) (oI 0)),gM 38 37,gG 39 38 true (.fadr 0 (.t 11)),gG 40 38 true (.load false 1 (.t 39)),gG 41 38 true (.mv (.t 9)),gG 42 38 true (.mv (.t 12)),gG 43 38 true (.iadr 2 (.t 41) (.t 42)),gG 44 38 true (.fadr 1 (.t 43)),gG 45 38 true (.load false 1 (.t 44)),gG 46 38 true (.bin .sub (.t 40) (.t 45)),gG 47 38 true (.fadr 2 (.t 3)),gG 48 38 true (.load false 1 (.t 47)),gG 49 38 true (.bin .lss (.t 46) (.t 48)),gI 50 (.pick (.t 38) (.t 49) (.v (.bool false)))] (kP [3,9,11,12,27,28,29,50] [3,11] [9]))
 (.cond (.t 50)
 (.reg false [gM 51 9,gM 52 12,gI 53 (.fadr 1 (.t 11)),gI 54 (.load false 1 (.t 53)),gI 55 (.iadr 2 (.t 51) (.t 52)),gI 56 (.fadr 1 (.t 55)),gN (.store 1 (.t 56) (.t 54))] (kP [3,9,27,28,29] [3] [9]))
 (.reg false [gM 57 9,gI 58 (.load true 2 (.t 11)),gI 59 (.bslice 2 1 [(.t 58)]),gI 60 (.append 118 2 16 (.t 57) (.t 59)),gM 9 60] (kP [3,9,27,28,29] [3] [9])))))))
 (.reg false [gI 61 (.bin .add (.t 29) (oI 1)),gM 29 61] (kP [3,9,27,28,29] [3] [9]))))))))
 (.seq (.reg false [gM 62 9,gI 63 (.mkfn 112 [(.t 3)]),gI 64 (.callm (.f 111) [(.t 62),(.t 63)] ⟨[3],[9],[3],[9],[]⟩),gM 9 64] (kP [3,9] [3] []))
 (.seq (.seq (.reg false [gM 65 9,gI 66 (.len (.t 65)),gI 67 (.bin .gtr (.t 66) (oI 2000))] (kP [3,9,67] [3] []))
 (.cond (.t 67)
 (.seq (.seq (.reg false [gI 6 (.mv (.v (.slice none 0 0))),gI 7 (.mv (oI 2))] (kP [3,6,7] [3] []))
 (.ty 6 2))
 .ret)
 .skip))
 (.seq (.reg false [gM 68 9,gM 6 68,gI 7 (.mv (oI 0))] (kP [3,6,7] [3] []))
 .ret))))))))
theorem fc_frames : FcT Tryz.prog 78 Tryz.f78 C_frames [.t 6, .t 7] := fc_mk [aN [1,2,3] [3] [],aN [1,2,3,8] [3] [],aN [1,2,3,8,20] [3] [],⟨(kP [3,6,7] [3] []),[],[],[(6,2)],[]⟩,aN [1,2,3,23] [3] [],⟨(kP [3,6,7] [3] []),[],[],[(6,2)],[]⟩,⟨(kP [1,2,3,9] [3] []),[(9,118,2)],[],[],[]⟩,aN [3,9,27,28,29] [3] [9],aN [3,9,27,28,29,30] [3] [9],aN [3,9,11,27,28,29] [3,11] [9],aN [3,9,11,12,27,28,29] [3,11] [9],aN [3,9,11,12,27,28,29,50] [3,11] [9],aN [3,9,27,28,29] [3] [9],aN [3,9,27,28,29] [3] [9],aN [3,9,27,28,29] [3] [9],⟨(kP [3,9] [3] []),[],[],[],[(64,⟨[3],[9],[3],[9],[]⟩)]⟩,aN [3,9,67] [3] [],⟨(kP [3,6,7] [3] []),[],[],[(6,2)],[]⟩,aN [3,6,7] [3] []] Tryz.func78 (by kernel_rfl)
def ixWSt (cl : FuncId) (cs : List Cel) (l : List (Int × Int)) (i : Int) : AS := ⟨tabV [(0, frsV false l), (1, .one (.fn cl [.ep cs])), (7, iv l.length), (8, iv i)], tabO [], tabO []⟩
theorem idxW_fc (cl : FuncId) (cs : List Cel) (p : Int × Int → Bool) (l : List (Int × Int)) (hl : l.length ≤ 1000000) (hcl : ∀ x ∈ l, FC Tryz.prog cl none [.ag (frC x), .one (.ep cs)] (fun _ r => r = bv (p x))) : FC Tryz.prog 149 none [frsV false l, .one (.fn cl [.ep cs])] (fun _ r => r = iv (idxG p 0 l)) := by
 refine fc_idxW (by simp +arith) ?_
 unfold C_idxW
 simp (maxSteps := 1000000) (disch := omega) only [go_sem]
 refine ex_loop1 (ixWSt cl cs l) (fun i => 0 ≤ i ∧ i ≤ l.length ∧ idxG p i (l.drop i.toNat) = idxG p 0 l) (fun i => (l.length - i).toNat) 0 ⟨by omega, by omega, rfl⟩ rfl ?_
 rintro i ⟨g1, g2, g3⟩
 unfold ixWSt
 by_cases hi : i < l.length
 ·rw [drop_cons l i.toNat (by omega), idxG] at g3
  have e2 : (i + 1).toNat = i.toNat + 1 := by omega
  simp (maxSteps := 1000000) (disch := omega) only [go_sem]
  refine CALL_det (hcl _ (getD_mem _ _ (by omega))) (.inl rfl) ?_
  cases h : p (l.getD i.toNat default) with
  | true => rw [h, if_pos rfl] at g3; simp (maxSteps := 1000000) (disch := omega) only [go_sem]; rw [← g3]
  | false =>
   rw [h, if_neg (by simp)] at g3
   simp (maxSteps := 1000000) (disch := omega) only [go_sem]
   exact ⟨_, rfl, ⟨by omega, by omega, by rw [e2]; exact g3⟩, by omega⟩
 ·rw [List.drop_eq_nil_of_le (by omega), idxG] at g3
  simp (maxSteps := 1000000) (disch := omega) only [go_sem]
  rw [← g3]
abbrev winRow (l : List (Int × Int)) : Row := ⟨0, 118, 2, l.map frC⟩
def dlWSt (cl : FuncId) (ta tb tc td : Int) (j k : Int) (cur : List (Int × Int)) : AS := ⟨tabV [(0, .one (.ow 1000000 0)), (1, .one (.fn cl [.bx 1000001 0])), (5, iv j), (6, iv k), (1000001, .any)], tabO [(1000001, [.g (.int .i64 ta), .g (.int .i64 tb), .g (.int .i64 tc), .g (.int .i64 td)])], tabO [(1000000, winRow cur)]⟩
theorem delW_fcm (cl : FuncId) (ta tb tc td : Int) (p : Int × Int → Bool) (l : List (Int × Int)) (hl : l.length ≤ 1000000) (hcl : ∀ x ∈ l, FC Tryz.prog cl none [.ag (frC x), .one (.ep [.g (.int .i64 ta), .g (.int .i64 tb), .g (.int .i64 tc), .g (.int .i64 td)])] (fun _ r => r = bv (p x))) :
  FCM Tryz.prog 111 ⟨[(1000001, [.g (.int .i64 ta), .g (.int .i64 tb), .g (.int .i64 tc), .g (.int .i64 td)])], [(1000000, winRow l)]⟩ [.one (.ow 1000000 0), .one (.fn cl [.bx 1000001 0])] (fun H r => H = ⟨[(1000001, [.g (.int .i64 ta), .g (.int .i64 tb), .g (.int .i64 tc), .g (.int .i64 td)])], [(1000000, winRow (l.filter fun x => !p x))]⟩ ∧ r = .one (.ow 1000000 0)) := by
 refine fcm_delW (K := ⟨[], [1000001], [1000000]⟩) (by simp +arith) (by simp [XK]) (by simp [XK]) ?_
 unfold C_delW
 simp (maxSteps := 1000000) (disch := omega) only [go_sem]
 refine CALL_det (idxW_fc cl [.g (.int .i64 ta), .g (.int .i64 tb), .g (.int .i64 tc), .g (.int .i64 td)] p l hl hcl) (.inl rfl) ?_
 rcases idxG_spec p l 0 (by omega) with ⟨h1, h2⟩ | ⟨h1, h2, h3, h4⟩
 ·rw [h1]
  rw [filter_none h2]
  simp (maxSteps := 1000000) (disch := omega) only [go_sem]
 ·generalize idxG p 0 l = i at *
  rw [show (i - 0).toNat = i.toNat by omega] at h3
  have h5 := DelI.start h1 (by omega) h3 (fun j hj => h4 j (by omega))
  simp (maxSteps := 1000000) (disch := omega) only [go_sem]
  refine ex_loop3 (dlWSt cl ta tb tc td) (DelI p l) (fun _ k _ => (l.length - k).toNat) i (i + 1) l h5 rfl ?_
  rintro j k cur hI
  have i1 := hI.j0
  have i2 := hI.jk
  have i3 := hI.kn
  have i4 := hI.len
  unfold dlWSt
  by_cases hk : k < l.length
  ·have eat := hI.at hk
   have ek := getD_map_at frC cur k [] (by omega) (by omega)
   have ej := getE_map_in frC cur j.toNat (by omega)
   simp (maxSteps := 1000000) (disch := omega) only [go_sem]
   rw [eat]
   refine CALL_det (hcl _ (getD_mem _ _ (by omega))) (.inl rfl) ?_
   cases hp : p (l.getD k.toNat default) with
   | true =>
    simp (maxSteps := 1000000) (disch := omega) only [go_sem]
    exact ⟨_, _, _, rfl, hI.del hk hp, by omega⟩
   | false =>
    simp (maxSteps := 1000000) (disch := omega) only [go_sem]
    exact ⟨j + 1, k + 1, cur.set j.toNat (l.getD k.toNat default), by simp only [dlWSt, winRow, List.map_set, frC_eq], hI.put hk hp, by omega⟩
  ·have hf := hI.fin hk
   simp (maxSteps := 1000000) (disch := omega) only [go_sem]
   refine ⟨⟨by omega, by simp; omega, by simp; omega⟩, ?_⟩
   rw [List.take_left' (by simp; omega), ← List.map_take, hf]
abbrev trgV (st sp jn ls : Int) : Val := .ag [.g (.int .i64 st), .g (.int .i64 sp), .g (.int .i64 jn), .g (.int .i64 ls)]
def trgF (st sp jn ls : Int) : Int := if (-1000000 ≤ st ∧ st ≤ 1000000) ∧ (-1000000 ≤ sp ∧ sp ≤ st) ∧ (0 ≤ jn ∧ jn ≤ 86400000) ∧ (0 ≤ ls ∧ ls ≤ 86400000) then 0 else 1
theorem checkTrigger_fc (st sp jn ls : Int) : FC Tryz.prog 108 none [trgV st sp jn ls] (fun _ r => r = iv (trgF st sp jn ls)) := by
 refine fc_checkTrigger (by simp +arith) ?_
 unfold C_checkTrigger
 simp (maxSteps := 1000000) (disch := omega) only [go_sem]
 refine CALL_det (out_fc _ _ _) (.inl rfl) ?_
 by_cases h1 : st < -1000000 ∨ st > 1000000
 ·rw [decide_eq_true h1]
  simp (maxSteps := 1000000) (disch := omega) only [go_sem]
  exact iv_congr (by unfold trgF; rw [if_neg (by omega)])
 rw [decide_eq_false h1]
 simp (maxSteps := 1000000) (disch := omega) only [go_sem]
 refine CALL_det (out_fc _ _ _) (.inl rfl) ?_
 by_cases h2 : sp < -1000000 ∨ sp > st
 ·rw [decide_eq_true h2]
  simp (maxSteps := 1000000) (disch := omega) only [go_sem]
  exact iv_congr (by unfold trgF; rw [if_neg (by omega)])
 rw [decide_eq_false h2]
 simp (maxSteps := 1000000) (disch := omega) only [go_sem]
 refine CALL_det (out_fc _ _ _) (.inl rfl) ?_
 by_cases h3 : jn < 0 ∨ jn > 86400000
 ·rw [decide_eq_true h3]
  simp (maxSteps := 1000000) (disch := omega) only [go_sem]
  exact iv_congr (by unfold trgF; rw [if_neg (by omega)])
 rw [decide_eq_false h3]
 simp (maxSteps := 1000000) (disch := omega) only [go_sem]
 refine CALL_det (out_fc _ _ _) (.inl rfl) ?_
 by_cases h4 : ls < 0 ∨ ls > 86400000
 ·rw [decide_eq_true h4]
  simp (maxSteps := 1000000) (disch := omega) only [go_sem]
  exact iv_congr (by unfold trgF; rw [if_neg (by omega)])
 rw [decide_eq_false h4]
 simp (maxSteps := 1000000) (disch := omega) only [go_sem]
 exact iv_congr (by unfold trgF; rw [if_pos (by omega)])
/-- The last window, with another end. -/
def lastW (out : List (Int × Int)) : Int × Int := out.getD ((out.length : Int) - 1).toNat default
def setTo (out : List (Int × Int)) (t : Int) : List (Int × Int) := out.set ((out.length : Int) - 1).toNat ((out.getD ((out.length : Int) - 1).toNat default).1, t)
theorem setTo_len (out : List (Int × Int)) (t : Int) : (setTo out t).length = out.length := by unfold setTo; rw [List.length_set]
theorem setTo_map (out : List (Int × Int)) (t : Int) : (setTo out t).map frC = (out.map frC).set ((out.length : Int) - 1).toNat [.g (.int .i64 (out.getD ((out.length : Int) - 1).toNat default).1), .g (.int .i64 t)] := by
 unfold setTo; rw [List.map_set]; rfl
theorem lastW_mem {out : List (Int × Int)} (h : 1 ≤ out.length) : lastW out ∈ out := getD_mem _ _ (by omega)
theorem setTo_all {P : Int × Int → Prop} {out : List (Int × Int)} {t : Int} (h : ∀ w ∈ out, P w) (h1 : 1 ≤ out.length) (h2 : P ((lastW out).1, t)) : ∀ w ∈ setTo out t, P w := by
 intro w hw
 unfold setTo at hw
 rcases List.mem_or_eq_of_mem_set hw with hw | rfl
 ·exact h w hw
 ·exact h2
def rawStep (st sp un : Int) (x : List (Int × Int) × Bool) (s : Smp) : List (Int × Int) × Bool :=
 if s.a ≥ un ∨ s.q = 2 then x else if x.2 = false ∧ s.v ≥ st then (x.1 ++ [(s.a, un)], true) else if x.2 = true ∧ s.v < sp then (setTo x.1 s.a, false) else x
def rawW (st sp un : Int) (l : List Smp) : List (Int × Int) := (l.foldl (rawStep st sp un) ([], false)).1
def rawSt (l : List Smp) (st sp jn ls un i : Int) (out : List (Int × Int)) (op : Bool) : AS := ⟨tabV [(2, iv un), (3, .one (.bx 3 0)), (7, .one (.ow 7 0)), (8, bv op), (11, smps false l), (12, iv l.length), (13, iv i)], tabO [(3, [.g (.int .i64 st), .g (.int .i64 sp), .g (.int .i64 jn), .g (.int .i64 ls)])], tabO [(7, winRow out)]⟩
theorem raw_fc (l : List Smp) (hl : l.length ≤ 5000) (st sp jn ls un : Int) : FC Tryz.prog 110 none [trgV st sp jn ls, smps false l, iv un] (fun _ r => r = frsV true (rawW st sp un l)) := by
 refine fc_raw (by simp +arith) ?_
 unfold C_raw
 simp (maxSteps := 1000000) (disch := omega) only [go_sem]
 refine ex_loop3 (rawSt l st sp jn ls un) (fun i out op => 0 ≤ i ∧ i ≤ l.length ∧ out.length ≤ i ∧ (op = true → 1 ≤ out.length) ∧ (l.drop i.toNat).foldl (rawStep st sp un) (out, op) = l.foldl (rawStep st sp un) ([], false)) (fun i _ _ => (l.length - i).toNat) 0 [] false ⟨by omega, by omega, by simp, by simp, rfl⟩ rfl ?_
 rintro i out op ⟨g1, g2, g3, g4, g5⟩
 unfold rawSt
 by_cases hi : i < l.length
 ·have e2 : (i + 1).toNat = i.toNat + 1 := by omega
  have em := getD_map_at smpC l i [] g1 hi
  rw [drop_cons l i.toNat (by omega), List.foldl_cons, ← e2] at g5
  unfold rawStep at g5
  by_cases c1 : (l.getD i.toNat default).a ≥ un
  ·rw [if_pos (.inl c1)] at g5
   simp (maxSteps := 1000000) (disch := omega) only [go_sem]
   exact ⟨_, _, _, rfl, ⟨by omega, by omega, by omega, g4, g5⟩, by omega⟩
  by_cases c2 : (l.getD i.toNat default).q = 2
  ·rw [if_pos (.inr c2)] at g5
   simp (maxSteps := 1000000) (disch := omega) only [go_sem]
   exact ⟨_, _, _, rfl, ⟨by omega, by omega, by omega, g4, g5⟩, by omega⟩
  rw [if_neg (by omega)] at g5
  cases op with
  | false =>
   by_cases c3 : (l.getD i.toNat default).v ≥ st
   ·rw [if_pos ⟨rfl, c3⟩] at g5
    simp (maxSteps := 1000000) (disch := omega) only [go_sem]
    exact ⟨i + 1, out ++ [((l.getD i.toNat default).a, un)], true, by simp only [rawSt, winRow, List.map_append, List.map_cons, List.map_nil, frC_eq], ⟨by omega, by omega, by simp; omega, by simp, g5⟩, by omega⟩
   ·rw [if_neg (fun h => c3 h.2), if_neg (by simp)] at g5
    simp (maxSteps := 1000000) (disch := omega) only [go_sem]
    exact ⟨_, _, _, rfl, ⟨by omega, by omega, by omega, g4, g5⟩, by omega⟩
  | true =>
   have g4 := g4 rfl
   rw [if_neg (by simp)] at g5
   by_cases c3 : (l.getD i.toNat default).v < sp
   ·rw [if_pos ⟨rfl, c3⟩] at g5
    have eo := getE_map_in frC out ((out.length : Int) - 1).toNat (by omega)
    simp (maxSteps := 1000000) (disch := omega) only [go_sem]
    exact ⟨i + 1, setTo out (l.getD i.toNat default).a, false, by simp only [rawSt, winRow, setTo_map], ⟨by omega, by omega, by rw [setTo_len]; omega, by simp, g5⟩, by omega⟩
   ·rw [if_neg (fun h => c3 h.2)] at g5
    simp (maxSteps := 1000000) (disch := omega) only [go_sem]
    exact ⟨_, _, _, rfl, ⟨by omega, by omega, by omega, fun _ => g4, g5⟩, by omega⟩
 ·rw [List.drop_eq_nil_of_le (by omega), List.foldl_nil] at g5
  simp (maxSteps := 1000000) (disch := omega) only [go_sem]
  unfold rawW
  rw [← g5]
theorem raw_ok (st sp un : Int) (hun : 0 ≤ un ∧ un ≤ 345686400000) : ∀ (l : List Smp) (x : List (Int × Int) × Bool), (∀ s ∈ l, okSmp s) → (∀ w ∈ x.1, 0 ≤ w.1 ∧ w.1 ≤ 345686400000 ∧ 0 ≤ w.2 ∧ w.2 ≤ 345686400000) → (x.2 = true → 1 ≤ x.1.length) →
  ∀ w ∈ (l.foldl (rawStep st sp un) x).1, 0 ≤ w.1 ∧ w.1 ≤ 345686400000 ∧ 0 ≤ w.2 ∧ w.2 ≤ 345686400000
 | [], x, _, h, _ => h
 | s :: r, x, hs, h, ho => by
  have hs0 := hs s (by simp)
  unfold okSmp at hs0
  rw [List.foldl_cons]
  refine raw_ok st sp un hun r _ (fun y hy => hs y (by simp [hy])) ?_ ?_
  ·unfold rawStep
   split
   ·exact h
   ·split
    ·intro w hw
     simp only [List.mem_append, List.mem_cons, List.not_mem_nil, or_false] at hw
     rcases hw with hw | rfl
     ·exact h w hw
     ·simp only; omega
    ·split
     ·rename_i h3
      have h4 := h _ (lastW_mem (ho h3.1))
      exact setTo_all h (ho h3.1) ⟨h4.1, h4.2.1, by simp only; omega, by simp only; omega⟩
     ·exact h
  ·unfold rawStep
   split
   ·exact ho
   ·split
    ·intro _; simp
    ·split
     ·simp
     ·exact ho
theorem raw_len (st sp un : Int) : ∀ (l : List Smp) (x : List (Int × Int) × Bool), (l.foldl (rawStep st sp un) x).1.length ≤ x.1.length + l.length
 | [], x => by simp
 | s :: r, x => by
  rw [List.foldl_cons, List.length_cons]
  have := raw_len st sp un r (rawStep st sp un x s)
  have h2 : (rawStep st sp un x s).1.length ≤ x.1.length + 1 := by
   unfold rawStep
   split
   ·omega
   ·split
    ·simp
    ·split
     ·simp only [setTo_len]; omega
     ·omega
  omega
theorem Good.all {l : List Smp} (h : Good l) : ∀ s ∈ l, okSmp s := fun s hs => by
 obtain ⟨j, hj, rfl⟩ := List.mem_iff_getElem.1 hs
 have := h.ok j hj
 simpa [List.getD_eq_getElem?_getD, hj] using this
def jnStep (jn : Int) (out : List (Int × Int)) (f : Int × Int) : List (Int × Int) := if 1 ≤ out.length ∧ f.1 - (out.getD ((out.length : Int) - 1).toNat default).2 < jn then setTo out f.2 else out ++ [f]
def shortB (ls : Int) (f : Int × Int) : Bool := decide (f.2 - f.1 < ls)
def jnW (st sp jn un : Int) (l : List Smp) : List (Int × Int) := (rawW st sp un l).foldl (jnStep jn) []
def frmW (st sp jn ls un : Int) (l : List Smp) : List (Int × Int) := (jnW st sp jn un l).filter fun f => !shortB ls f
def okW (w : Int × Int) : Prop := 0 ≤ w.1 ∧ w.1 ≤ 345686400000 ∧ 0 ≤ w.2 ∧ w.2 ≤ 345686400000
theorem jn_ok (jn : Int) : ∀ (l out : List (Int × Int)), (∀ w ∈ l, okW w) → (∀ w ∈ out, okW w) → ∀ w ∈ l.foldl (jnStep jn) out, okW w
 | [], out, _, h => h
 | f :: r, out, hl, h => by
  rw [List.foldl_cons]
  refine jn_ok jn r _ (fun w hw => hl w (by simp [hw])) ?_
  have hf := hl f (by simp)
  unfold jnStep
  split
  ·rename_i h3
   have h4 := h _ (lastW_mem h3.1)
   unfold okW at *
   exact setTo_all h h3.1 ⟨h4.1, h4.2.1, hf.2.2⟩
  ·intro w hw
   simp only [List.mem_append, List.mem_cons, List.not_mem_nil, or_false] at hw
   rcases hw with hw | rfl
   ·exact h w hw
   ·exact hf
theorem jn_len (jn : Int) : ∀ (l out : List (Int × Int)), (l.foldl (jnStep jn) out).length ≤ out.length + l.length
 | [], out => by simp
 | f :: r, out => by
  rw [List.foldl_cons, List.length_cons]
  have := jn_len jn r (jnStep jn out f)
  have h2 : (jnStep jn out f).length ≤ out.length + 1 := by
   unfold jnStep; split
   ·rw [setTo_len]; omega
   ·simp
  omega
def frmSp (l : List Smp) (st sp jn ls un : Int) : List (Int × Int) × Int :=
 if orSp [trgF st sp jn ls, serFault l] ≠ 0 then ([], orSp [trgF st sp jn ls, serFault l]) else if un < 0 ∨ un > 345686400000 then ([], 1) else if (frmW st sp jn ls un l).length > 2000 then ([], 2) else (frmW st sp jn ls un l, 0)
theorem frClos_fc (x : Int × Int) (st sp jn ls : Int) (h : okW x) : FC Tryz.prog 112 none [.ag (frC x), .one (.ep [.g (.int .i64 st), .g (.int .i64 sp), .g (.int .i64 jn), .g (.int .i64 ls)])] (fun _ r => r = bv (shortB ls x)) := by
 refine fc_frClos (by simp +arith) ?_
 unfold okW at h
 unfold C_frClos shortB
 simp (maxSteps := 1000000) (disch := omega) only [go_sem]
theorem or2_z' {a b : Int} (h : orSp [a, b] = 0) : a = 0 ∧ b = 0 := by
 unfold orSp orSp orSp at h; split at h
 ·omega
 ·split at h <;> omega
def frmSt (m : List (Int × Int)) (st sp jn ls i : Int) (out : List (Int × Int)) : AS := ⟨tabV [(3, .one (.bx 3 0)), (9, .one (.ow 9 0)), (27, frsV true m), (28, iv m.length), (29, iv i)], tabO [(3, [.g (.int .i64 st), .g (.int .i64 sp), .g (.int .i64 jn), .g (.int .i64 ls)])], tabO [(9, winRow out)]⟩
theorem frames_fc (l : List Smp) (hl : l.length ≤ 4611686018427387904) (st sp jn ls un : Int) : FC Tryz.prog 78 none [trgV st sp jn ls, smps false l, iv un] (fun _ r => r = .tu [frsV true (frmSp l st sp jn ls un).1, iv (frmSp l st sp jn ls un).2]) := by
 refine fc_frames (by simp +arith) ?_
 unfold C_frames
 simp (maxSteps := 1000000) (disch := omega) only [go_sem]
 refine CALL_det (checkTrigger_fc st sp jn ls) (.inl rfl) ?_
 simp (maxSteps := 1000000) (disch := omega) only [go_sem]
 refine CALL_det (checkSeries_fc l hl) (.inl rfl) ?_
 simp (maxSteps := 1000000) (disch := omega) only [go_sem]
 refine CALL_det (first_fc false [trgF st sp jn ls, serFault l] (by simp)) (.inl rfl) ?_
 unfold frmSp
 by_cases h1 : orSp [trgF st sp jn ls, serFault l] = 0
 ·rw [if_neg (show ¬(orSp [trgF st sp jn ls, serFault l] ≠ 0) by omega), h1]
  obtain ⟨h2, h3⟩ := or2_z' h1
  have hg := good_of h3
  have hlen := hg.len
  simp (maxSteps := 1000000) (disch := omega) only [go_sem]
  refine CALL_det (out_fc _ _ _) (.inl rfl) ?_
  by_cases h4 : un < 0 ∨ un > 345686400000
  ·rw [if_pos h4, decide_eq_true h4]
   simp (maxSteps := 1000000) (disch := omega) only [go_sem]
   rfl
  ·rw [if_neg h4, decide_eq_false h4]
   simp (maxSteps := 1000000) (disch := omega) only [go_sem]
   refine CALL_det (raw_fc l (by omega) st sp jn ls un) (.inl rfl) ?_
   have hok := raw_ok st sp un (by omega) l ([], false) hg.all (by simp) (by simp)
   have hrl := raw_len st sp un l ([], false)
   have hjo := jn_ok jn (rawW st sp un l) [] hok (by simp)
   have hjl := jn_len jn (rawW st sp un l) []
   change (rawW st sp un l).length ≤ _ at hrl
   simp only [List.length_nil, Nat.zero_add] at hrl hjl
   change ∀ w ∈ rawW st sp un l, okW w at hok
   unfold frmW jnW
   generalize rawW st sp un l = m at *
   simp (maxSteps := 1000000) (disch := omega) only [go_sem]
   refine ex_loop2 (frmSt m st sp jn ls) (fun i out => 0 ≤ i ∧ i ≤ m.length ∧ out.length ≤ i ∧ (∀ w ∈ out, okW w) ∧ (m.drop i.toNat).foldl (jnStep jn) out = m.foldl (jnStep jn) []) (fun i _ => (m.length - i).toNat) 0 [] ⟨by omega, by omega, by simp, by simp, rfl⟩ rfl ?_
   rintro i out ⟨g1, g2, g3, g4, g5⟩
   unfold frmSt
   by_cases hi : i < m.length
   ·have e2 : (i + 1).toNat = i.toNat + 1 := by omega
    have em := getD_map_at frC m i [] g1 hi
    have hmi := hok _ (getD_mem m i.toNat (by omega))
    rw [drop_cons m i.toNat (by omega), List.foldl_cons, ← e2] at g5
    unfold okW at hmi
    unfold jnStep at g5
    by_cases c1 : 1 ≤ out.length
    ·have eo := getE_map_in frC out ((out.length : Int) - 1).toNat (by omega)
     have hlo := g4 _ (lastW_mem c1)
     unfold okW lastW at hlo
     by_cases c2 : (m.getD i.toNat default).1 - (out.getD ((out.length : Int) - 1).toNat default).2 < jn
     ·rw [if_pos ⟨c1, c2⟩] at g5
      simp (maxSteps := 1000000) (disch := omega) only [go_sem]
      exact ⟨i + 1, setTo out (m.getD i.toNat default).2, by simp only [frmSt, winRow, setTo_map], ⟨by omega, by omega, by rw [setTo_len]; omega, setTo_all g4 c1 ⟨hlo.1, hlo.2.1, hmi.2.2⟩, g5⟩, by omega⟩
     ·rw [if_neg (fun h => c2 h.2)] at g5
      simp (maxSteps := 1000000) (disch := omega) only [go_sem]
      exact ⟨i + 1, out ++ [m.getD i.toNat default], by simp only [frmSt, winRow, List.map_append, List.map_cons, List.map_nil, frC_eq], ⟨by omega, by omega, by simp; omega, fun w hw => by
       simp only [List.mem_append, List.mem_cons, List.not_mem_nil, or_false] at hw
       rcases hw with hw | rfl
       ·exact g4 w hw
       ·exact hmi, g5⟩, by omega⟩
    ·rw [if_neg (fun h => c1 h.1)] at g5
     have : out.length = 0 := by omega
     simp (maxSteps := 1000000) (disch := omega) only [go_sem]
     exact ⟨i + 1, out ++ [m.getD i.toNat default], by simp only [frmSt, winRow, List.map_append, List.map_cons, List.map_nil, frC_eq], ⟨by omega, by omega, by simp; omega, fun w hw => by
       simp only [List.mem_append, List.mem_cons, List.not_mem_nil, or_false] at hw
       rcases hw with hw | rfl
       ·exact g4 w hw
       ·exact hmi, g5⟩, by omega⟩
   ·rw [List.drop_eq_nil_of_le (by omega), List.foldl_nil] at g5
    subst g5
    have hfl := List.length_filter_le (fun f => !shortB ls f) (m.foldl (jnStep jn) [])
    simp (maxSteps := 1000000) (disch := omega) only [go_sem]
    refine ⟨rfl, CALLM_rnE ⟨[(3, [.g (.int .i64 st), .g (.int .i64 sp), .g (.int .i64 jn), .g (.int .i64 ls)])], [(9, winRow ((m.foldl (jnStep jn) []).filter fun f => !shortB ls f))]⟩ (.one (.ow 9 0)) (swp 3 1000001) (swp 9 1000000) (swp_swp 3 1000001) (swp_swp 9 1000000) (delW_fcm 112 st sp jn ls (shortB ls) (m.foldl (jnStep jn) []) (by omega) (fun x hx => frClos_fc x st sp jn ls (hjo x hx))) (by simp) rfl rfl rfl rfl ⟨rfl, rfl⟩ ?_⟩
    generalize (m.foldl (jnStep jn) []).filter (fun f => !shortB ls f) = z at *
    by_cases c3 : z.length > 2000
    ·rw [if_pos c3]
     simp (maxSteps := 1000000) (disch := omega) only [go_sem]
     rfl
    ·rw [if_neg c3]
     simp (maxSteps := 1000000) (disch := omega) only [go_sem]
 ·rw [if_pos (show orSp [trgF st sp jn ls, serFault l] ≠ 0 by omega)]
  simp (maxSteps := 1000000) (disch := omega) only [go_sem]
  rfl
end Go.Proofs.YtodmofhehabmgaaGreatDoor

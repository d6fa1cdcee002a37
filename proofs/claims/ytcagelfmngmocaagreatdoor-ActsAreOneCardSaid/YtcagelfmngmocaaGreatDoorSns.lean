
/-
 The site of alarms is made: all events, in order.
 The state of an alarm.
-/
import Derived.Test.YtcagelfmngmocaaGreatDoorSew
import Derived.Test.YtcagelfmngmocaaGreatDoorSit
import Derived.Test.YtcagelfmngmocaaGreatDoorAc2
import Derived.Test.YtcagelfmngmocaaGreatDoorAcb
namespace Go.Proofs.YtcagelfmngmocaaGreatDoor
open Go Go.Ai
set_option linter.unusedSimpArgs false
set_option linter.unusedVariables false
set_option maxHeartbeats 4000000
def C_nsC : AC := (.seq (.reg false [gI 3 (.box (.t 0)),gI 4 (.box (.t 1)),gI 5 (.mv (oI 0))] (kP [2,3,4] [3,4] []))
 (.seq (.reg true [gI 7 (.fadr 0 (.t 3)),gI 8 (.load false 1 (.t 7)),gI 9 (.fadr 0 (.t 4)),gI 10 (.load false 1 (.t 9)),gI 11 (.call (.f 50) [(.t 8),(.t 10)]),gI 12 (.fadr 1 (.t 3)),gI 13 (.load false 1 (.t 12)),gI 14 (.fadr 1 (.t 4)),gI 15 (.load false 1 (.t 14)),gI 16 (.call (.f 50) [(.t 13),(.t 15)]),gI 17 (.bslice 1 2 [(.t 11),(.t 16)]),gI 18 (.call (.f 49) [(.t 17)]),gM 6 18] (kP [2,3,4,6] [3,4] []))
 (.seq (.seq (.reg false [gM 19 6,gI 20 (.bin .neq (.t 19) (oI 0)),gM 21 20,gG 22 21 false (.fadr 1 (.t 3)),gG 23 21 false (.load false 1 (.t 22)),gG 24 21 false (.bin .neq (.t 23) (oI 2)),gI 25 (.pick (.t 21) (.v (.bool true)) (.t 24))] (kP [2,3,4,6,25] [3,4] []))
 (.cond (.t 25)
 (.seq (.reg false [gM 26 6,gI 27 (.fadr 2 (.t 3)),gI 28 (.load false 1 (.t 27)),gI 29 (.fadr 2 (.t 4)),gI 30 (.load false 1 (.t 29)),gI 31 (.call (.f 50) [(.t 28),(.t 30)]),gI 32 (.bslice 1 2 [(.t 26),(.t 31)]),gI 33 (.call (.f 49) [(.t 32)]),gM 5 33] (kP [5] [] []))
 .ret)
 .skip))
 (.seq (.reg true [gI 34 (.load false 1 (.t 2)),gI 35 (.fadr 4 (.t 3)),gI 36 (.load false 1 (.t 35)),gI 37 (.iadr 6 (.t 34) (.t 36)),gI 38 (.load true 6 (.t 37)),gI 39 (.load false 1 (.t 2)),gI 40 (.fadr 4 (.t 4)),gI 41 (.load false 1 (.t 40)),gI 42 (.iadr 6 (.t 39) (.t 41)),gI 43 (.load true 6 (.t 42)),gI 44 (.call (.f 59) [(.t 38),(.t 43)]),gM 5 44] (kP [5] [] []))
 .ret))))
theorem fc_nsC : FcT Tryz.prog 97 Tryz.f97 C_nsC [.t 5] := fc_mk [aN [2,3,4] [3,4] [],aN [2,3,4,6] [3,4] [],aN [2,3,4,6,25] [3,4] [],aN [5] [] [],aN [5] [] []] Tryz.func97 (by kernel_rfl)
def C_newS : AC := (.seq (.reg false [gI 5 (.box (.t 2)),gI 6 (.mv (.v (.pointer none)))] (kP [0,1,5] [5,21] [19,500021,600021]))
 (.seq (.seq (.seq (.seq (.seq (.reg true [gM 15 0,gN (.chk (.t 5) (some 5)),gI 16 (.load false 1 (.t 5)),gM 17 0,gI 18 (.len (.t 17)),gI 19 (.mkr 148 4 32 [(.int .i64 (0)),(.bool false),(.int .i64 (0)),(.bool false)] (.t 18) (.t 18)),gI 20 (.build [(.slice none 0 0),(.slice none 0 0),(.slice none 0 0),(.slice none 0 0),(.slice none 0 0),(.slice none 0 0),(.slice none 0 0)] [(0,1,(.t 15)),(1,1,(.t 16)),(4,1,(.t 19))]),gI 21 (.box (.t 20)),gM 7 21] (kP [0,1,5,7,21] [5,21] [19]))
 (.ownb 21 2 200021 152 5))
 (.ownb 21 3 300021 22 1))
 (.ownb 21 5 500021 42 3))
 (.ownb 21 6 600021 3 1))
 (.seq (.seq (.reg false [gM 22 0,gI 23 (.len (.t 22)),gI 24 (.mv (oI 0))] (kP [0,1,5,7,21,22,23,24] [5,21] [19,200021,300021,500021,600021]))
 (.block 0 (.loop (.seq (.reg false [gI 25 (.bin .lss (.t 24) (.t 23))] (kP [0,1,5,7,21,22,23,24,25] [5,21] [19,200021,300021,500021,600021]))
 (.seq (.cond (.t 25)
 .skip
 (.exit 0))
 (.seq (.block 1 (.seq (.reg false [gM 26 24,gI 27 (.iadr 10 (.t 22) (.t 24)),gI 28 (.load true 10 (.t 27)),gI 9 (.alloc [(.string (ByteArray.mk #[])),(.string (ByteArray.mk #[])),(.int .i64 (0)),(.int .i64 (0)),(.int .i64 (0)),(.int .i64 (0)),(.int .i64 (0)),(.int .i64 (0)),(.bool false),(.string (ByteArray.mk #[]))]),gM 8 26,gN (.store 10 (.t 9) (.t 28))] (kP [0,1,5,7,8,9,21,22,23,24] [5,9,21] [19,200021,300021,500021,600021]))
 (.seq (.reg true [gM 29 7,gM 30 7,gI 31 (.nilchk (.t 30)),gI 32 (.fadr 3 (.t 31)),gI 33 (.load false 1 (.t 32)),gM 34 0,gI 35 (.load true 10 (.t 9)),gI 36 (.call (.f 93) [(.t 34),(.t 35)]),gI 37 (.bslice 1 1 [(.t 36)]),gI 38 (.append 22 1 24 (.t 33) (.t 37)),gI 39 (.nilchk (.t 29)),gI 40 (.fadr 3 (.t 39)),gN (.store 1 (.t 40) (.t 38))] (kP [0,1,5,7,8,9,21,22,23,24] [5,9,21] [19,200021,300021,500021,600021]))
 (.seq (.reg false [gM 41 7,gI 42 (.nilchk (.t 41)),gI 43 (.fadr 4 (.t 42)),gI 44 (.load false 1 (.t 43)),gM 45 8,gI 46 (.iadr 4 (.t 44) (.t 45)),gI 47 (.fadr 0 (.t 46)),gN (.store 1 (.t 47) (oI 1))] (kP [0,1,5,7,8,9,21,22,23,24] [5,9,21] [19,200021,300021,500021,600021]))
 (.seq (.reg true [gM 48 7,gM 49 7,gI 50 (.nilchk (.t 49)),gI 51 (.fadr 5 (.t 50)),gI 52 (.load false 1 (.t 51)),gI 53 (.fadr 0 (.t 9)),gI 54 (.load false 1 (.t 53)),gI 55 (.build [(.string (ByteArray.mk #[])),(.int .i64 (0)),(.int .i64 (0))] [(0,1,(.t 54)),(1,1,(oI 1))]),gI 56 (.bslice 3 1 [(.t 55)]),gI 57 (.append 42 3 32 (.t 52) (.t 56)),gI 58 (.nilchk (.t 48)),gI 59 (.fadr 5 (.t 58)),gN (.store 1 (.t 59) (.t 57))] (kP [0,1,5,7,8,9,21,22,23,24] [5,9,21] [19,200021,300021,500021,600021]))
 (.seq (.reg true [gI 60 (.load true 10 (.t 9)),gM 61 1,gI 62 (.fadr 1 (.t 9)),gI 63 (.load false 1 (.t 62)),gI 64 (.call (.f 95) [(.t 61),(.t 63)]),gI 65 (.call (.f 94) [(.t 60),(.t 64),(oI 345686400000)]),gI 66 (.len (.t 65)),gI 67 (.mv (oI 0))] (kP [0,1,5,7,8,21,22,23,24,65,66,67] [5,21] [19,200021,300021,500021,600021]))
 (.block 2 (.loop (.seq (.reg false [gI 68 (.bin .lss (.t 67) (.t 66))] (kP [0,1,5,7,8,21,22,23,24,65,66,67,68] [5,21] [19,200021,300021,500021,600021]))
 (.seq (.cond (.t 68)
 .skip
 (.exit 2))
 (.seq (.block 3 (.seq (.reg false [gI 69 (.iadr 2 (.t 65) (.t 67)),gI 70 (.load true 2 (.t 69)),gI 11 (.alloc [(.int .i64 (0)),(.int .i64 (0))]),gN (.store 2 (.t 11) (.t 70))] (kP [0,1,5,7,8,11,21,22,23,24,65,66,67] [5,11,21] [19,200021,300021,500021,600021]))
 (.reg true [gM 71 7,gM 72 7,gI 73 (.nilchk (.t 72)),gI 74 (.fadr 2 (.t 73)),gI 75 (.load false 1 (.t 74)),gI 76 (.fadr 0 (.t 11)),gI 77 (.load false 1 (.t 76)),gM 78 8,gI 79 (.build [(.int .i64 (0)),(.int .i64 (0)),(.int .i64 (0)),(.bool false),(.int .i64 (0))] [(0,1,(.t 77)),(1,1,(oI 0)),(2,1,(.t 78)),(3,1,(.v (.bool true)))]),gI 80 (.fadr 1 (.t 11)),gI 81 (.load false 1 (.t 80)),gM 82 8,gI 83 (.build [(.int .i64 (0)),(.int .i64 (0)),(.int .i64 (0)),(.bool false),(.int .i64 (0))] [(0,1,(.t 81)),(1,1,(oI 0)),(2,1,(.t 82))]),gI 84 (.bslice 5 2 [(.t 79),(.t 83)]),gI 85 (.append 152 5 40 (.t 75) (.t 84)),gI 86 (.nilchk (.t 71)),gI 87 (.fadr 2 (.t 86)),gN (.store 1 (.t 87) (.t 85))] (kP [0,1,5,7,8,21,22,23,24,65,66,67] [5,21] [19,200021,300021,500021,600021]))))
 (.reg false [gI 88 (.bin .add (.t 67) (oI 1)),gM 67 88] (kP [0,1,5,7,8,21,22,23,24,65,66,67] [5,21] [19,200021,300021,500021,600021])))))))))))))
 (.reg false [gI 89 (.bin .add (.t 24) (oI 1)),gM 24 89] (kP [0,1,5,7,21,22,23,24] [5,21] [19,200021,300021,500021,600021]))))))))
 (.seq (.seq (.reg false [gI 90 (.load false 1 (.t 5)),gI 91 (.len (.t 90)),gI 92 (.mv (oI 0))] (kP [0,5,7,21,90,91,92] [5,21] [19,200021,300021,500021,600021]))
 (.block 4 (.loop (.seq (.reg false [gI 93 (.bin .lss (.t 92) (.t 91))] (kP [0,5,7,21,90,91,92,93] [5,21] [19,200021,300021,500021,600021]))
 (.seq (.cond (.t 93)
 .skip
 (.exit 4))
 (.seq (.block 5 (.seq (.reg false [gM 94 92,gI 95 (.iadr 6 (.t 90) (.t 92)),gI 96 (.load true 6 (.t 95)),gI 13 (.alloc [(.string (ByteArray.mk #[])),(.int .i64 (0)),(.int .i64 (0)),(.int .i64 (0)),(.string (ByteArray.mk #[])),(.int .i64 (0))]),gM 12 94,gN (.store 6 (.t 13) (.t 96))] (kP [0,5,7,12,13,21,90,91,92] [5,13,21] [19,200021,300021,500021,600021]))
 (.seq (.reg false [gM 97 0,gI 98 (.fadr 4 (.t 13)),gI 99 (.load false 1 (.t 98)),gI 100 (.call (.f 42) [(.t 97),(.t 99)]),gM 14 100] (kP [0,5,7,12,13,14,21,90,91,92] [5,13,21] [19,200021,300021,500021,600021]))
 (.seq (.reg true [gM 101 7,gM 102 7,gI 103 (.nilchk (.t 102)),gI 104 (.fadr 2 (.t 103)),gI 105 (.load false 1 (.t 104)),gI 106 (.fadr 2 (.t 13)),gI 107 (.load false 1 (.t 106)),gM 108 14,gM 109 12,gI 110 (.build [(.int .i64 (0)),(.int .i64 (0)),(.int .i64 (0)),(.bool false),(.int .i64 (0))] [(0,1,(.t 107)),(1,1,(oI 2)),(2,1,(.t 108)),(4,1,(.t 109))]),gI 111 (.bslice 5 1 [(.t 110)]),gI 112 (.append 152 5 40 (.t 105) (.t 111)),gI 113 (.nilchk (.t 101)),gI 114 (.fadr 2 (.t 113)),gN (.store 1 (.t 114) (.t 112))] (kP [0,5,7,13,14,21,90,91,92] [5,13,21] [19,200021,300021,500021,600021]))
 (.seq (.reg false [gI 115 (.fadr 3 (.t 13)),gI 116 (.load false 1 (.t 115)),gI 117 (.bin .eql (.t 116) (oI 2)),gM 118 117,gG 119 118 true (.mv (.t 14)),gG 120 118 true (.bin .geq (.t 119) (oI 0)),gI 121 (.pick (.t 118) (.t 120) (.v (.bool false)))] (kP [0,5,7,13,14,21,90,91,92,121] [5,13,21] [19,200021,300021,500021,600021]))
 (.cond (.t 121)
 (.reg true [gM 122 7,gM 123 7,gI 124 (.nilchk (.t 123)),gI 125 (.fadr 2 (.t 124)),gI 126 (.load false 1 (.t 125)),gI 127 (.fadr 5 (.t 13)),gI 128 (.load false 1 (.t 127)),gM 129 14,gI 130 (.build [(.int .i64 (0)),(.int .i64 (0)),(.int .i64 (0)),(.bool false),(.int .i64 (0))] [(0,1,(.t 128)),(1,1,(oI 1)),(2,1,(.t 129))]),gI 131 (.bslice 5 1 [(.t 130)]),gI 132 (.append 152 5 40 (.t 126) (.t 131)),gI 133 (.nilchk (.t 122)),gI 134 (.fadr 2 (.t 133)),gN (.store 1 (.t 134) (.t 132))] (kP [0,5,7,21,90,91,92] [5,21] [19,200021,300021,500021,600021]))
 .skip))))))
 (.reg false [gI 135 (.bin .add (.t 92) (oI 1)),gM 92 135] (kP [0,5,7,21,90,91,92] [5,21] [19,200021,300021,500021,600021]))))))))
 (.seq (.reg false [gM 136 7,gI 137 (.nilchk (.t 136)),gI 138 (.fadr 2 (.t 137)),gI 139 (.load false 1 (.t 138)),gI 140 (.mkfn 97 [(.t 5)]),gI 141 (.callm (.f 96) [(.t 139),(.t 140)] ⟨[5],[200021],[5],[200021],[200021]⟩)] (kP [7,21] [21] [19,500021,600021]))
 (.seq (.reg false [gM 142 7,gM 6 142] (kP [6,21] [21] [19,500021,600021]))
 .ret))))))
theorem fcm_newS : FmT Tryz.prog 37 Tryz.f37 C_newS [.t 6] := fcm_mk [aN [0,1,5] [5,21] [19,500021,600021],⟨(kP [0,1,5,7,21] [5,21] [19]),[(1200021,152,5),(1300021,22,1),(1500021,42,3),(1600021,3,1)],[(1,(some 5))],[],[]⟩,aN [0,1,5,7,21,22,23,24] [5,21] [19,200021,300021,500021,600021],aN [0,1,5,7,21,22,23,24,25] [5,21] [19,200021,300021,500021,600021],aN [0,1,5,7,8,9,21,22,23,24] [5,9,21] [19,200021,300021,500021,600021],aN [0,1,5,7,8,9,21,22,23,24] [5,9,21] [19,200021,300021,500021,600021],aN [0,1,5,7,8,9,21,22,23,24] [5,9,21] [19,200021,300021,500021,600021],aN [0,1,5,7,8,9,21,22,23,24] [5,9,21] [19,200021,300021,500021,600021],aN [0,1,5,7,8,21,22,23,24,65,66,67] [5,21] [19,200021,300021,500021,600021],aN [0,1,5,7,8,21,22,23,24,65,66,67,68] [5,21] [19,200021,300021,500021,600021],aN [0,1,5,7,8,11,21,22,23,24,65,66,67] [5,11,21] [19,200021,300021,500021,600021],aN [0,1,5,7,8,21,22,23,24,65,66,67] [5,21] [19,200021,300021,500021,600021],aN [0,1,5,7,8,21,22,23,24,65,66,67] [5,21] [19,200021,300021,500021,600021],aN [0,1,5,7,21,22,23,24] [5,21] [19,200021,300021,500021,600021],aN [0,5,7,21,90,91,92] [5,21] [19,200021,300021,500021,600021],aN [0,5,7,21,90,91,92,93] [5,21] [19,200021,300021,500021,600021],aN [0,5,7,12,13,21,90,91,92] [5,13,21] [19,200021,300021,500021,600021],aN [0,5,7,12,13,14,21,90,91,92] [5,13,21] [19,200021,300021,500021,600021],aN [0,5,7,13,14,21,90,91,92] [5,13,21] [19,200021,300021,500021,600021],aN [0,5,7,13,14,21,90,91,92,121] [5,13,21] [19,200021,300021,500021,600021],aN [0,5,7,21,90,91,92] [5,21] [19,200021,300021,500021,600021],aN [0,5,7,21,90,91,92] [5,21] [19,200021,300021,500021,600021],⟨(kP [7,21] [21] [19,500021,600021]),[],[],[],[(141,⟨[5],[200021],[5],[200021],[200021]⟩)]⟩,aN [6,21] [21] [19,500021,600021]] Tryz.func37 (by kernel_rfl)
theorem nsC_fc (a : List Opr) (x y : Ev) (ha : a.length ≤ 1000000) (hx : x.k = 2 → 0 ≤ x.ac ∧ x.ac < a.length) (hy : y.k = 2 → 0 ≤ y.ac ∧ y.ac < a.length) : FC Tryz.prog 97 none [.ag (evS x), .ag (evS y), .one (.ep [.sl false 6 (a.map oprS)])] (fun _ r => r = iv (cmpE a x y)) := by
 refine fc_nsC (by simp +arith) ?_
 have ho := orI_fc [sd y.a x.a, sd y.k x.k] (by simp)
 have ho2 := orI_fc [orSp [sd y.a x.a, sd y.k x.k], sd y.al x.al] (by simp)
 have hcm : cmpE a x y = if orSp [sd y.a x.a, sd y.k x.k] ≠ 0 ∨ x.k ≠ 2 then orSp [orSp [sd y.a x.a, sd y.k x.k], sd y.al x.al] else cmpO (a.getD x.ac.toNat default) (a.getD y.ac.toNat default) := rfl
 have hk : orSp [sd y.a x.a, sd y.k x.k] = 0 → x.k = y.k := fun h => by
  rw [orSp2] at h
  by_cases h1 : sd y.a x.a ≠ 0
  ·rw [if_pos h1] at h; omega
  ·rw [if_neg h1] at h
   rcases sd_cases y.k x.k with ⟨h2, h3⟩ | ⟨h2, h3⟩ | ⟨h2, h3⟩ <;> omega
 generalize orSp [sd y.a x.a, sd y.k x.k] = c at *
 unfold C_nsC
 by_cases h : c ≠ 0 ∨ x.k ≠ 2
 ·rw [if_pos h] at hcm
  rw [hcm]
  generalize orSp [c, sd y.al x.al] = d at *
  by_cases hc : c = 0
  ·have h2 : x.k ≠ 2 := by omega
   simp (maxSteps := 1000000) (disch := omega) only [go_sem]
   refine CALL_det (cmpInt_fc _ _) (.inl rfl) ?_
   simp (maxSteps := 1000000) (disch := omega) only [go_sem]
   refine CALL_det (cmpInt_fc _ _) (.inl rfl) ?_
   simp (maxSteps := 1000000) (disch := omega) only [go_sem]
   refine CALL_det ho (.inl rfl) ?_
   simp (maxSteps := 1000000) (disch := omega) only [go_sem]
   refine CALL_det (cmpInt_fc _ _) (.inl rfl) ?_
   simp (maxSteps := 1000000) (disch := omega) only [go_sem]
   refine CALL_det ho2 (.inl rfl) ?_
   simp (maxSteps := 1000000) (disch := omega) only [go_sem]
  ·simp (maxSteps := 1000000) (disch := omega) only [go_sem]
   refine CALL_det (cmpInt_fc _ _) (.inl rfl) ?_
   simp (maxSteps := 1000000) (disch := omega) only [go_sem]
   refine CALL_det (cmpInt_fc _ _) (.inl rfl) ?_
   simp (maxSteps := 1000000) (disch := omega) only [go_sem]
   refine CALL_det ho (.inl rfl) ?_
   simp (maxSteps := 1000000) (disch := omega) only [go_sem]
   refine CALL_det (cmpInt_fc _ _) (.inl rfl) ?_
   simp (maxSteps := 1000000) (disch := omega) only [go_sem]
   refine CALL_det ho2 (.inl rfl) ?_
   simp (maxSteps := 1000000) (disch := omega) only [go_sem]
 ·rw [if_neg h] at hcm
  rw [hcm]
  have hc : c = 0 := by omega
  have hxk : x.k = 2 := by omega
  have h1 := hx hxk
  have h2 := hy (by rw [← hk hc]; exact hxk)
  have hb := byOp_fc (a.getD x.ac.toNat default) (a.getD y.ac.toNat default)
  rw [oprS_eq, oprS_eq] at hb
  simp (maxSteps := 1000000) (disch := omega) only [go_sem]
  refine CALL_det (cmpInt_fc _ _) (.inl rfl) ?_
  simp (maxSteps := 1000000) (disch := omega) only [go_sem]
  refine CALL_det (cmpInt_fc _ _) (.inl rfl) ?_
  simp (maxSteps := 1000000) (disch := omega) only [go_sem]
  refine CALL_det ho (.inl rfl) ?_
  simp (maxSteps := 1000000) (disch := omega) only [go_sem]
  refine CALL_det hb (.inl rfl) ?_
  simp (maxSteps := 1000000) (disch := omega) only [go_sem]
abbrev upRow (l : List (List Int)) : Row := ⟨0, 22, 1, l.map upC⟩
theorem frE_up (l : List (List Int)) : frE (l.map upC) = true := frE_of (fun _ => rfl) l
theorem tofE_up (l : List (List Int)) : tofE (l.map upC) = l.map upC := tofE_of (fun _ => rfl) l
attribute [go_sem] frE_up tofE_up
theorem evAs_snoc (s : List Ser) : ∀ (l : List Alm) (j : Int) (x : Alm), evAs s j (l ++ [x]) = evAs s j l ++ evA s (j + l.length) x
 | [], j, x => by simp [evAs]
 | y :: l, j, x => by
  rw [List.cons_append, evAs, evAs, evAs_snoc s l, List.append_assoc, List.length_cons]
  congr 3
  omega
theorem evBs_snoc (q : List Alm) : ∀ (l : List Opr) (j : Int) (x : Opr), evBs q j (l ++ [x]) = evBs q j l ++ evB q (j + l.length) x
 | [], j, x => by simp [evBs]
 | y :: l, j, x => by
  rw [List.cons_append, evBs, evBs, evBs_snoc q l, List.append_assoc, List.length_cons]
  congr 3
  omega
theorem take_snocA {α : Type} [Inhabited α] (l : List α) (i : Int) (h0 : 0 ≤ i) (h : i < l.length) : l.take (i + 1).toNat = l.take i.toNat ++ [l.getD i.toNat default] := by
 rw [show (i + 1).toNat = i.toNat + 1 by omega, List.take_add_one, List.getD_eq_getElem?_getD, List.getElem?_eq_getElem (by omega)]; rfl
def staI (n i : Nat) : List Sta := List.replicate i sta0 ++ List.replicate (n - i) default
theorem staI_len {n i : Nat} (h : i ≤ n) : (staI n i).length = n := by simp [staI]; omega
theorem staI_at {n i : Nat} (h : i < n) : (staI n i).getD i default = default := by
 unfold staI
 rw [List.getD_eq_getElem?_getD, List.getElem?_append_right (by simp)]
 rw [List.getElem?_replicate]
 split <;> rfl
theorem staI_set {n i : Nat} (h : i < n) : (staI n i).set i sta0 = staI n (i + 1) := by
 unfold staI
 rw [List.set_append_right _ _ (by simp), List.length_replicate, Nat.sub_self, show n - i = (n - (i + 1)) + 1 by omega, List.replicate_succ, List.set_cons_zero]
 rw [List.replicate_succ', List.append_assoc]; rfl
abbrev nsB (l : List Alm) (a : List Opr) : List Cel := [.sl false 10 (l.map almS), .sl false 6 (a.map oprS), .ow 200021 0, .ow 300021 0, .ow 19 0, .ow 500021 0, .ow 600021 0]
abbrev evV (i : Int) (v : Int × Int) : List Ev := [⟨v.1, 0, i, true, 0⟩, ⟨v.2, 0, i, false, 0⟩]
theorem evV_len (i : Int) (w : List (Int × Int)) : (w.flatMap (evV i)).length = 2 * w.length := by
 induction w with
 | nil => rfl
 | cons v w ih => rw [List.flatMap_cons, List.length_append, ih]; simp; omega
structure NsX where
 i : Int
 ev : List Ev
 up : List (List Int)
 st : List Sta
 td : List Std
def ns1St (l : List Alm) (s : List Ser) (a : List Opr) (x : NsX) : AS := ⟨tabV [(0, alms false l), (1, sers false s), (5, .one (.bx 5 0)), (7, .one (.bx 21 0)), (21, .one (.bx 21 0)), (22, alms false l), (23, iv l.length), (24, iv x.i)], tabO [(5, [.sl false 6 (a.map oprS)]), (21, nsB l a)], tabO [(19, staRow x.st), (200021, evRow x.ev), (300021, upRow x.up), (500021, stdRow x.td), (600021, ignRow [])]⟩
def ns2St (l : List Alm) (s : List Ser) (a : List Opr) (i : Int) (up : List (List Int)) (st : List Sta) (td : List Std) (w : List (Int × Int)) (j : Int) (ev : List Ev) : AS := ⟨tabV [(0, alms false l), (1, sers false s), (5, .one (.bx 5 0)), (7, .one (.bx 21 0)), (8, iv i), (21, .one (.bx 21 0)), (22, alms false l), (23, iv l.length), (24, iv i), (65, frsV true w), (66, iv w.length), (67, iv j)], tabO [(5, [.sl false 6 (a.map oprS)]), (21, nsB l a)], tabO [(19, staRow st), (200021, evRow ev), (300021, upRow up), (500021, stdRow td), (600021, ignRow [])]⟩
def ns3St (l : List Alm) (a : List Opr) (up : List (List Int)) (st : List Sta) (td : List Std) (k : Int) (ev : List Ev) : AS := ⟨tabV [(0, alms false l), (5, .one (.bx 5 0)), (7, .one (.bx 21 0)), (21, .one (.bx 21 0)), (90, oprs false a), (91, iv a.length), (92, iv k)], tabO [(5, [.sl false 6 (a.map oprS)]), (21, nsB l a)], tabO [(19, staRow st), (200021, evRow ev), (300021, upRow up), (500021, stdRow td), (600021, ignRow [])]⟩
structure NsI (l : List Alm) (s : List Ser) (x : NsX) : Prop where
 i0 : 0 ≤ x.i
 i1 : x.i ≤ l.length
 ev : x.ev = evAs s 0 (l.take x.i.toNat)
 up : x.up = (l.take x.i.toNat).map fun y => parA l (l.length + 1) y
 st : x.st = staI l.length x.i.toNat
 td : x.td = (l.take x.i.toNat).map fun y => ⟨y.k, 1, 0⟩
theorem evAs_le (s : List Ser) (l : List Alm) (i : Nat) (j : Int) : (evAs s j (l.take i)).length ≤ (evAs s j l).length := by
 induction l generalizing i j with
 | nil => simp
 | cons x l ih =>
  cases i with
  | zero => simp [evAs]
  | succ i =>
   rw [List.take_succ_cons, evAs, evAs, List.length_append, List.length_append]
   have := ih i (j + 1)
   omega
theorem evBs_le (q : List Alm) (l : List Opr) (i : Nat) (j : Int) : (evBs q j (l.take i)).length ≤ (evBs q j l).length := by
 induction l generalizing i j with
 | nil => simp
 | cons x l ih =>
  cases i with
  | zero => simp [evBs]
  | succ i =>
   rw [List.take_succ_cons, evBs, evBs, List.length_append, List.length_append]
   have := ih i (j + 1)
   omega
theorem mem_evAs {s : List Ser} {e : Ev} : ∀ {l : List Alm} {j : Int}, e ∈ evAs s j l → ∃ i : Nat, i < l.length ∧ e ∈ evA s (j + i) (l.getD i default)
 | [], j, h => by simp [evAs] at h
 | x :: l, j, h => by
  rw [evAs, List.mem_append] at h
  rcases h with h | h
  ·exact ⟨0, by simp, by simpa using h⟩
  ·obtain ⟨i, h1, h2⟩ := mem_evAs h
   refine ⟨i + 1, by simpa using h1, ?_⟩
   rw [show j + ((i + 1 : Nat) : Int) = j + 1 + (i : Int) by omega]
   simpa using h2
theorem mem_evBs {q : List Alm} {e : Ev} : ∀ {l : List Opr} {j : Int}, e ∈ evBs q j l → ∃ i : Nat, i < l.length ∧ e ∈ evB q (j + i) (l.getD i default)
 | [], j, h => by simp [evBs] at h
 | x :: l, j, h => by
  rw [evBs, List.mem_append] at h
  rcases h with h | h
  ·exact ⟨0, by simp, by simpa using h⟩
  ·obtain ⟨i, h1, h2⟩ := mem_evBs h
   refine ⟨i + 1, by simpa using h1, ?_⟩
   rw [show j + ((i + 1 : Nat) : Int) = j + 1 + (i : Int) by omega]
   simpa using h2
theorem evs0_ok {l : List Alm} {s : List Ser} {a : List Opr} (h1 : AlmOk l) (e : Ev) (he : e ∈ evs0 l s a) : EvOk l.length a.length e := by
 unfold evs0 at he
 rcases List.mem_append.1 he with he | he
 ·obtain ⟨i, hi, hm⟩ := mem_evAs he
  unfold evA at hm
  obtain ⟨v, hv, hm⟩ := List.mem_flatMap.1 hm
  simp only [List.mem_cons, List.not_mem_nil, or_false] at hm
  rcases hm with rfl | rfl
  ·exact ⟨by simp only; omega, fun _ => by simp only; omega, fun h => by simp at h⟩
  ·exact ⟨by simp only; omega, fun _ => by simp only; omega, fun h => by simp at h⟩
 ·obtain ⟨i, hi, hm⟩ := mem_evBs he
  unfold evB at hm
  have hr := idxA_rng l (a.getD i default).al
  rcases List.mem_cons.1 hm with rfl | hm
  ·exact ⟨by simp only; omega, fun h => by simp at h, fun _ => ⟨by simp only; omega, by simp only; omega⟩⟩
  ·split at hm
   ·rename_i hc
    simp only [List.mem_cons, List.not_mem_nil, or_false] at hm
    subst hm
    exact ⟨by simp only; omega, fun _ => hc.2, fun h => by simp at h⟩
   ·simp at hm
theorem good_nil : Good [] := good_of (by rfl)
theorem samO_good {s : List Ser} (h : SerOk s) (t : ByteArray) : Good (samO s t) := by
 unfold samO
 split
 ·rename_i h0
  have hr := idxG_rng (fun x : Ser => decide (x.t = t)) s 0
  exact good_of (h.ser _ (by omega))
 ·exact good_nil
set_option maxHeartbeats 16000000 in
set_option maxRecDepth 8000 in
theorem newSite_fcm (l : List Alm) (s : List Ser) (a : List Opr) (h1 : AlmOk l) (h2 : SerOk s) (h3 : ActOk a) (hev : (evs0 l s a).length ≤ 1000000) :
  FCM Tryz.prog 37 ⟨[], []⟩ [alms false l, sers false s, oprs false a]
   (fun H r => H = ⟨[(21, [.sl false 10 (l.map almS), .sl false 6 (a.map oprS), .sl true 5 ((evs l s a).map evS), .sl true 1 ((upA l).map upC), .ow 19 0, .ow 500021 0, .ow 600021 0])], [(19, staRow (sit0 l).st), (500021, stdRow (sit0 l).td), (600021, ignRow [])]⟩ ∧ r = .one (.bx 21 0)) := by
 refine fcm_newS (K := ⟨[], [21], [19, 500021, 600021]⟩) (by simp +arith) (by simp) (by simp) ?_
 have hl := h1.len
 have hs := h2.len
 have ha := h3.len
 unfold C_newS
 simp (maxSteps := 1000000) (disch := omega) only [go_sem]
 have est : List.replicate l.length [Cel.g (.int .i64 0), Cel.g (.bool false), Cel.g (.int .i64 0), Cel.g (.bool false)] = (staI l.length 0).map staS := by
  unfold staI
  simp only [List.replicate_zero, List.nil_append, Nat.sub_zero, List.map_replicate]; rfl
 refine ex_loop1 (ns1St l s a) (NsI l s) (fun x => (l.length - x.i).toNat) ⟨0, [], [], staI l.length 0, []⟩ ⟨by simp, by simp, by simp [evAs], by simp, by simp, by simp⟩ (by simp only [ns1St, staRow]; rw [← est]; rfl) ?_
 rintro ⟨i, ev, up, st, td⟩ ⟨i0, i1, hxe, hxu, hxs, hxt⟩
 simp only at i0 i1 hxe hxu hxs hxt
 unfold ns1St
 by_cases hi : i < l.length
 ·have em := getD_map_at almS l i [] i0 hi
  have hm := getD_mem l i.toNat (by omega)
  have hf := h1.flt i.toNat (by omega)
  have hpa := parents_fc l h1 _ hm
  have hsl : st.length = l.length := by rw [hxs, staI_len (by omega)]
  have hul : up.length = i := by rw [hxu, List.length_map, List.length_take]; omega
  have htl : td.length = i := by rw [hxt, List.length_map, List.length_take]; omega
  have eg := getE_map_in staS st i.toNat (by omega)
  have hst1 : st.set i.toNat sta0 = staI l.length (i + 1).toNat := by rw [hxs, staI_set (by omega), show i.toNat + 1 = (i + 1).toNat by omega]
  have hsz : st.getD i.toNat default = default := by rw [hxs, staI_at (by omega)]
  obtain ⟨kk, hff⟩ := almG_ok hf
  obtain ⟨f1, f2, f3, f4, f5, f6⟩ := almF_ok hff
  have hac := active_fc (l.getD i.toNat default).k (l.getD i.toNat default).t (l.getD i.toNat default).p (l.getD i.toNat default).lt (l.getD i.toNat default).kd (l.getD i.toNat default).lim (l.getD i.toNat default).db (l.getD i.toNat default).on (l.getD i.toNat default).off (l.getD i.toNat default).pr 345686400000 (samO s (l.getD i.toNat default).t) (samO_good h2 _) f2 f3 f4 f5
  rw [show actW (l.getD i.toNat default).kd (l.getD i.toNat default).lim (l.getD i.toNat default).db (l.getD i.toNat default).on (l.getD i.toNat default).off 345686400000 (samO s (l.getD i.toNat default).t) = winsA s (l.getD i.toNat default) from rfl] at hac
  have hsa := samples_fc (l.getD i.toNat default).t s (by omega) h2.up
  rw [almS_eq] at hpa
  obtain ⟨fr, hfr⟩ : ∃ fr, samA s (l.getD i.toNat default).t = smps fr (samO s (l.getD i.toNat default).t) := by
   unfold samA samO
   split
   ·exact ⟨false, rfl⟩
   ·exact ⟨true, rfl⟩
  rw [hfr] at hsa
  simp (maxSteps := 1000000) (disch := omega) only [go_sem]
  refine CALL_det hpa (.inl rfl) ?_
  simp (maxSteps := 1000000) (disch := omega) only [go_sem]
  refine CALL_det hsa (.inr ⟨rfl, rfl⟩) ?_
  simp (maxSteps := 1000000) (disch := omega) only [go_sem]
  refine CALL_det hac (.inl rfl) ?_
  simp (maxSteps := 1000000) (disch := omega) only [go_sem]
  have hsn := evAs_snoc s (l.take i.toNat) 0 (l.getD i.toNat default)
  rw [← take_snocA l i i0 hi, ← hxe, List.length_take, show (0 : Int) + (min i.toNat l.length : Nat) = i by omega, show evA s i (l.getD i.toNat default) = (winsA s (l.getD i.toNat default)).flatMap (evV i) from rfl] at hsn
  have hle := evAs_le s l (i + 1).toNat 0
  have hle2 : (evs0 l s a).length = (evAs s 0 l).length + (evBs l 0 a).length := by unfold evs0; rw [List.length_append]
  rw [hsn, List.length_append, evV_len] at hle
  clear hac hpa hsa
  generalize hw : winsA s (l.getD i.toNat default) = w at *
  refine ex_loop2 (ns2St l s a i (up ++ [parA l (l.length + 1) (l.getD i.toNat default)]) (st.set i.toNat sta0) (td ++ [⟨(l.getD i.toNat default).k, 1, 0⟩]) w) (fun j ev' => 0 ≤ j ∧ j ≤ w.length ∧ ev' = ev ++ (w.take j.toNat).flatMap (evV i)) (fun j _ => (w.length - j).toNat) 0 ev ⟨by omega, by omega, by simp⟩ (by
   rw [hsz]
   simp only [ns2St, staRow, upRow, stdRow, evRow, List.map_append, List.map_cons, List.map_nil, List.map_set, staS_eq, upC_eq, stdS_eq]; rfl) ?_
  rintro j ev' ⟨j0, j1, j2⟩
  unfold ns2St
  by_cases hj : j < w.length
  ·have ej := getD_map_at frC w j [] j0 hj
   have hl2 : ev'.length = ev.length + 2 * j.toNat := by rw [j2, List.length_append, evV_len, List.length_take]; omega
   simp (maxSteps := 1000000) (disch := omega) only [go_sem]
   refine ⟨j + 1, ev' ++ evV i (w.getD j.toNat default), ?_, ⟨by omega, by omega, ?_⟩, by omega⟩
   ·simp only [evRow, staRow, upRow, stdRow, List.map_append, List.map_cons, List.map_nil, evS_eq]; rfl
   ·rw [j2, take_snocA w j j0 hj, List.flatMap_append, List.append_assoc]; simp
  ·rw [List.take_of_length_le (by omega)] at j2
   simp (maxSteps := 1000000) (disch := omega) only [go_sem]
   refine ⟨⟨i + 1, ev', _, _, _⟩, rfl, ⟨by simp only; omega, by simp only; omega, ?_, ?_, ?_, ?_⟩, by simp only; omega⟩
   ·simp only; rw [hsn, j2]
   ·simp only; rw [take_snocA l i i0 hi, List.map_append, hxu]; rfl
   ·simp only; rw [hst1]
   ·simp only; rw [take_snocA l i i0 hi, List.map_append, hxt]; rfl
 ·rw [List.take_of_length_le (by omega)] at hxe hxu hxt
  have hie : i.toNat = l.length := by omega
  rw [hie] at hxs
  have hxs : st = l.map fun _ => sta0 := by rw [hxs]; simp [staI, List.map_const']
  simp (maxSteps := 1000000) (disch := omega) only [go_sem]
  refine ex_loop2 (ns3St l a up st td) (fun k ev' => 0 ≤ k ∧ k ≤ a.length ∧ ev' = ev ++ evBs l 0 (a.take k.toNat)) (fun k _ => (a.length - k).toNat) 0 ev ⟨by omega, by omega, by simp [evBs]⟩ rfl ?_
  rintro k ev' ⟨k0, k1, k2⟩
  unfold ns3St
  have hle2 : (evs0 l s a).length = ev.length + (evBs l 0 a).length := by unfold evs0; rw [List.length_append, hxe]
  by_cases hk : k < a.length
  ·have em := getD_map_at oprS a k [] k0 hk
   have hfi := find_fc (a.getD k.toNat default).al l (by omega) h1.up
   have hle3 := evBs_le l a (k + 1).toNat 0
   have hsn := evBs_snoc l (a.take k.toNat) 0 (a.getD k.toNat default)
   rw [← take_snocA a k k0 hk, List.length_take, show (0 : Int) + (min k.toNat a.length : Nat) = k by omega] at hsn
   rw [hsn, List.length_append] at hle3
   have hk3 : ev ++ evBs l 0 (a.take (k + 1).toNat) = ev' ++ evB l k (a.getD k.toNat default) := by rw [hsn, k2, List.append_assoc]
   have hl2 : ev'.length + (evB l k (a.getD k.toNat default)).length ≤ 1000000 := by rw [k2, List.length_append]; omega
   unfold evB at hk3 hl2
   by_cases q1 : (a.getD k.toNat default).kd = 2
   ·by_cases q2 : 0 ≤ idxA l (a.getD k.toNat default).al
    ·rw [if_pos ⟨q1, q2⟩] at hk3 hl2
     simp only [List.length_cons, List.length_nil] at hl2
     simp (maxSteps := 1000000) (disch := omega) only [go_sem]
     refine CALL_det hfi (.inl rfl) ?_
     simp (maxSteps := 1000000) (disch := omega) only [go_sem]
     refine ⟨⟨by simp only [List.length_append, List.length_map, List.length_cons, List.length_nil]; omega, by simp only [List.length_append, List.length_map, List.length_cons, List.length_nil]; omega⟩, k + 1, ev ++ evBs l 0 (a.take (k + 1).toNat), ?_, ⟨by omega, by omega, rfl⟩, by omega⟩
     rw [hk3]
     simp only [evRow, List.map_append, List.map_cons, List.map_nil, evS_eq, List.append_assoc, List.cons_append, List.nil_append]; rfl
    ·rw [if_neg (fun h => q2 h.2)] at hk3 hl2
     simp only [List.length_cons, List.length_nil] at hl2
     simp (maxSteps := 1000000) (disch := omega) only [go_sem]
     refine CALL_det hfi (.inl rfl) ?_
     simp (maxSteps := 1000000) (disch := omega) only [go_sem]
     refine ⟨k + 1, ev ++ evBs l 0 (a.take (k + 1).toNat), ?_, ⟨by omega, by omega, rfl⟩, by omega⟩
     rw [hk3]
     simp only [evRow, List.map_append, List.map_cons, List.map_nil, evS_eq, List.append_assoc, List.cons_append, List.nil_append]; rfl
   ·rw [if_neg (fun h => q1 h.1)] at hk3 hl2
    simp only [List.length_cons, List.length_nil] at hl2
    simp (maxSteps := 1000000) (disch := omega) only [go_sem]
    refine CALL_det hfi (.inl rfl) ?_
    simp (maxSteps := 1000000) (disch := omega) only [go_sem]
    refine ⟨k + 1, ev ++ evBs l 0 (a.take (k + 1).toNat), ?_, ⟨by omega, by omega, rfl⟩, by omega⟩
    rw [hk3]
    simp only [evRow, List.map_append, List.map_cons, List.map_nil, evS_eq, List.append_assoc, List.cons_append, List.nil_append]; rfl
  ·rw [List.take_of_length_le (by omega)] at k2
   have hev0 : ev' = evs0 l s a := by rw [k2, hxe]; rfl
   have hso := ssfE_fcm 97 (p := fun e : Ev => e.k = 2 → 0 ≤ e.ac ∧ e.ac < a.length) ⟨fun x _ => (evSwo a).irr x trivial, fun x y z _ _ _ => (evSwo a).tr x y z trivial trivial trivial, fun x y z _ _ _ => (evSwo a).ntr x y z trivial trivial trivial⟩ 6 (a.map oprS) (fun x y hx hy => nsC_fc a x y (by omega) hx hy) ev' (fun e he => by rw [hev0] at he; exact (evs0_ok h1 e he).ac) (by rw [hev0]; exact hev)
   rw [hev0, show ssort (cmpE a) (evs0 l s a) = evs l s a from rfl] at hso
   rw [hev0]
   simp (maxSteps := 1000000) (disch := omega) only [go_sem]
   refine ⟨rfl, CALLM_rnES ⟨[(5, [.sl false 6 (a.map oprS)])], [(200021, evRow (evs l s a))]⟩ (.tu []) (swp 5 1000001) (swp 200021 1000000) (swp_swp 5 1000001) (swp_swp 200021 1000000) hso (by simp) rfl rfl rfl rfl rfl ⟨rfl, rfl⟩ ?_⟩
   simp (maxSteps := 1000000) (disch := omega) only [go_sem]
   rw [hxu, hxs, hxt]; rfl
end Go.Proofs.YtcagelfmngmocaaGreatDoor
namespace Go.Proofs.YtcagelfmngmocaaGreatDoor
open Go Go.Ai
set_option linter.unusedSimpArgs false
set_option linter.unusedVariables false
set_option maxHeartbeats 4000000
/-- Alarms, series and acts are right, and not too many. -/
structure AllOk (l : List Alm) (s : List Ser) (a : List Opr) : Prop where
 al : AlmOk l
 se : SerOk s
 ac : ActOk a
 sm1 : ∀ x ∈ l, x.sm
 sm2 : ∀ x ∈ s, x.t.size ≤ 1000 ∧ x.l.length ≤ 1000000
 sm3 : ∀ x ∈ a, x.sm
 ev : (evs0 l s a).length ≤ 500000
theorem evs_len (l : List Alm) (s : List Ser) (a : List Opr) : (evs l s a).length = (evs0 l s a).length := ssort_length _ _
theorem AllOk.run {l : List Alm} {s : List Ser} {a : List Opr} (h : AllOk l s a) : RuI l a (evs l s a) (sit0 l) 0 where
 n1 := by simp [sit0]
 n2 := by simp [sit0]
 ok e he := evs0_ok h.al e (ssort_mem.1 he)
 ig := by rw [evs_len]; have := h.ev; simp [sit0]; omega
 v1 := by omega
theorem par_in {l : List Alm} (h : AlmOk l) : ∀ (n : Nat) (x : Alm), x ∈ l → ∀ k ∈ parA l n x, 0 ≤ k ∧ k < l.length
 | 0, x, _, k, hk => by simp [parA] at hk
 | n + 1, x, hx, k, hk => by
  rw [parA] at hk
  by_cases c : x.p = emp
  ·rw [if_pos c] at hk; simp at hk
  ·rw [if_neg c] at hk
   have hp := h.par x hx c
   rcases List.mem_cons.1 hk with rfl | hk
   ·exact hp
   ·exact par_in h n _ (getD_mem l _ (by omega)) k hk
theorem rptE_len (up : List (List Int)) (at_ : Int) : ∀ (n i : Nat) (s : Sit), (rptE up at_ n i s).td.length = s.td.length
 | 0, i, s => rfl
 | n + 1, i, s => by rw [rptE_succ, rptE_len up at_ n, (rptX_len up at_ i s).2.1]
theorem runE_td (l : List Alm) (a : List Opr) (to : Int) : ∀ (ev : List Ev) (s : Sit), (runE l a to ev s).td.length = s.td.length
 | [], s => rfl
 | e :: r, s => by
  rw [runE]
  split
  ·rfl
  ·rw [runE_td l a to r]
   split
   ·rw [(appE_len l a e s).2.1]
   ·rw [rptE_len, (appE_len l a e s).2.1]
def p21 (k : Nat) : Nat := if k = 21 then 9021 else if k = 9021 then 21 else k
def q19 (k : Nat) : Nat := if k = 19 then 9019 else if k = 9019 then 19 else k
def pRun (k : Nat) : Nat := if k = 9021 then 1000001 else if k = 1000001 then 9021 else k
def qRun (k : Nat) : Nat := if k = 9019 then 1000002 else if k = 1000002 then 9019 else if k = 500021 then 1000003 else if k = 1000003 then 500021 else if k = 600021 then 1000004 else if k = 1000004 then 600021 else k
theorem p21_p (k : Nat) : p21 (p21 k) = k := by unfold p21; (repeat' split) <;> omega
theorem q19_q (k : Nat) : q19 (q19 k) = k := by unfold q19; (repeat' split) <;> omega
theorem pRun_p (k : Nat) : pRun (pRun k) = k := by unfold pRun; (repeat' split) <;> omega
theorem qRun_q (k : Nat) : qRun (qRun k) = k := by unfold qRun; (repeat' split) <;> omega
abbrev siN (v : Nat) (l : List Alm) (a : List Opr) (ev : List Ev) (up : List (List Int)) (fr : Bool) : List Cel := [.sl false 10 (l.map almS), .sl false 6 (a.map oprS), .sl fr 5 (ev.map evS), .sl fr 1 (up.map upC), .ow 9019 0, .ow 500021 0, .ow 600021 v]
abbrev siR (s : Sit) : List (Nat × Row) := [(9019, staRow s.st), (500021, stdRow s.td), (600021, ignRow s.ig)]
end Go.Proofs.YtcagelfmngmocaaGreatDoor

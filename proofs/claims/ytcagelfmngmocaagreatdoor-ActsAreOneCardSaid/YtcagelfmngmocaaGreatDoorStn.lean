
/-
 The alarms that operators look at.
-/
import Derived.Test.YtcagelfmngmocaaGreatDoorSns
namespace Go.Proofs.YtcagelfmngmocaaGreatDoor
open Go Go.Ai
set_option linter.unusedSimpArgs false
set_option linter.unusedVariables false
set_option maxHeartbeats 4000000
def C_insZ : AC := (.seq (.reg false [gM 10 1,gI 11 (.bin .add (.t 10) (oI 1)),gM 8 11] (kP [0,1,2,3,8,1000001] [1000001] [1000000]))
 (.block 0 (.loop (.seq (.seq (.reg false [gM 12 8,gM 13 2,gI 14 (.bin .lss (.t 12) (.t 13))] (kP [0,1,2,3,8,14,1000001] [1000001] [1000000]))
 (.cond (.t 14)
 .skip
 (.exit 0)))
 (.seq (.block 1 (.seq (.reg false [gM 17 8,gM 9 17] (kP [0,1,2,3,8,9,1000001] [1000001] [1000000]))
 (.block 2 (.loop (.seq (.seq (.reg true [gM 18 9,gM 19 1,gI 20 (.bin .gtr (.t 18) (.t 19)),gM 21 20,gG 22 21 true (.mv (.t 3)),gG 23 21 true (.mv (.t 0)),gG 24 21 true (.mv (.t 9)),gG 25 21 true (.iadr 3 (.t 23) (.t 24)),gG 26 21 true (.load true 3 (.t 25)),gG 27 21 true (.mv (.t 0)),gG 28 21 true (.mv (.t 9)),gG 29 21 true (.bin .sub (.t 28) (oI 1)),gG 30 21 true (.iadr 3 (.t 27) (.t 29)),gG 31 21 true (.load true 3 (.t 30)),gG 32 21 true (.call (.t 22) [(.t 26),(.t 31)]),gG 33 21 true (.bin .lss (.t 32) (oI 0)),gI 34 (.pick (.t 21) (.t 33) (.v (.bool false)))] (kP [0,1,2,3,8,9,34,1000001] [1000001] [1000000]))
 (.cond (.t 34)
 .skip
 (.exit 2)))
 (.seq (.block 3 (.reg true [gM 37 0,gM 38 9,gM 39 0,gM 40 9,gI 41 (.bin .sub (.t 40) (oI 1)),gM 42 0,gM 43 9,gI 44 (.bin .sub (.t 43) (oI 1)),gI 45 (.iadr 3 (.t 42) (.t 44)),gI 46 (.load true 3 (.t 45)),gM 47 0,gM 48 9,gI 49 (.iadr 3 (.t 47) (.t 48)),gI 50 (.load true 3 (.t 49)),gI 51 (.iadr 3 (.t 37) (.t 38)),gN (.store 3 (.t 51) (.t 46)),gI 52 (.iadr 3 (.t 39) (.t 41)),gN (.store 3 (.t 52) (.t 50))] (kP [0,1,2,3,8,9,1000001] [1000001] [1000000])))
 (.reg false [gM 35 9,gI 36 (.bin .sub (.t 35) (oI 1)),gM 9 36] (kP [0,1,2,3,8,9,1000001] [1000001] [1000000]))))))))
 (.reg false [gM 15 8,gI 16 (.bin .add (.t 15) (oI 1)),gM 8 16] (kP [0,1,2,3,8,1000001] [1000001] [1000000])))))))
theorem fcms_insZ : FsT Tryz.prog 143 Tryz.f143 C_insZ [] := fcms_mk [aN [0,1,2,3,8,1000001] [1000001] [1000000],aN [0,1,2,3,8,14,1000001] [1000001] [1000000],aN [0,1,2,3,8,9,1000001] [1000001] [1000000],aN [0,1,2,3,8,9,34,1000001] [1000001] [1000000],aN [0,1,2,3,8,9,1000001] [1000001] [1000000],aN [0,1,2,3,8,9,1000001] [1000001] [1000000],aN [0,1,2,3,8,1000001] [1000001] [1000000]] Tryz.func143 (by kernel_rfl)
def C_pdqZ : AC := (.seq (.reg false [gI 10 (.mv (.v (.bool true)))] (kP [0,1,2,3,4,10,1000001] [1000001] [1000000]))
 (.seq (.reg false [gI 11 (.mv (.v (.bool true)))] (kP [0,1,2,3,4,10,11,1000001] [1000001] [1000000]))
 (.block 0 (.loop (.block 1 (.seq (.reg false [gM 21 2,gM 22 1,gI 23 (.bin .sub (.t 21) (.t 22)),gM 12 23] (kP [0,1,2,3,4,10,11,12,1000001] [1000001] [1000000]))
 (.seq (.seq (.reg false [gM 24 12,gI 25 (.bin .leq (.t 24) (oI 12))] (kP [0,1,2,3,4,10,11,12,25,1000001] [1000001] [1000000]))
 (.cond (.t 25)
 (.seq (.reg false [gM 26 0,gM 27 1,gM 28 2,gM 29 4,gI 30 (.callm (.f 143) [(.t 26),(.t 27),(.t 28),(.t 29)] ⟨[1000001],[1000000],[1000001],[1000000],[1000000]⟩)] (kP [] [1000001] [1000000]))
 .ret)
 .skip))
 (.seq (.seq (.reg false [gM 31 3,gI 32 (.bin .eql (.t 31) (oI 0))] (kP [0,1,2,3,4,10,11,12,32,1000001] [1000001] [1000000]))
 (.cond (.t 32)
 (.seq (.reg false [gM 33 0,gM 34 1,gM 35 2,gM 36 4,gI 37 (.call (.f 144) [(.t 33),(.t 34),(.t 35),(.t 36)])] (kP [] [1000001] [1000000]))
 .ret)
 .skip))
 (.seq (.seq (.reg false [gM 38 10,gI 39 (.un .not (.t 38))] (kP [0,1,2,3,4,10,11,12,39,1000001] [1000001] [1000000]))
 (.cond (.t 39)
 (.seq (.reg false [gM 40 0,gM 41 1,gM 42 2,gM 43 4,gI 44 (.call (.f 145) [(.t 40),(.t 41),(.t 42),(.t 43)])] (kP [0,1,2,3,4,10,11,12,1000001] [1000001] [1000000]))
 (.reg false [gM 45 3,gI 46 (.bin .sub (.t 45) (oI 1)),gM 3 46] (kP [0,1,2,3,4,10,11,12,1000001] [1000001] [1000000])))
 .skip))
 (.seq (.reg false [gM 48 0,gM 49 1,gM 50 2,gM 51 4,gI 52 (.call (.f 146) [(.t 48),(.t 49),(.t 50),(.t 51)]),gM 47 52,gI 53 (.extr (.t 47) 0),gI 54 (.extr (.t 47) 1),gM 13 53,gM 14 54] (kP [0,1,2,3,4,10,11,12,13,14,1000001] [1000001] [1000000]))
 (.seq (.seq (.reg false [gM 55 14,gI 56 (.bin .eql (.t 55) (oI 2))] (kP [0,1,2,3,4,10,11,12,13,14,56,1000001] [1000001] [1000000]))
 (.cond (.t 56)
 (.seq (.reg false [gM 57 0,gM 58 1,gM 59 2,gM 60 4,gI 61 (.call (.f 147) [(.t 57),(.t 58),(.t 59),(.t 60)])] (kP [0,1,2,3,4,10,11,12,13,1000001] [1000001] [1000000]))
 (.seq (.reg false [gM 62 2,gI 63 (.bin .sub (.t 62) (oI 1)),gM 64 13,gM 65 1,gI 66 (.bin .sub (.t 64) (.t 65)),gI 67 (.bin .sub (.t 63) (.t 66)),gM 13 67] (kP [0,1,2,3,4,10,11,12,13,1000001] [1000001] [1000000]))
 (.reg false [gI 14 (.mv (oI 1))] (kP [0,1,2,3,4,10,11,12,13,14,1000001] [1000001] [1000000]))))
 .skip))
 (.seq (.seq (.reg false [gM 68 10,gM 69 68,gG 70 69 true (.mv (.t 11)),gI 71 (.pick (.t 69) (.t 70) (.v (.bool false))),gM 72 71,gG 73 72 true (.mv (.t 14)),gG 74 72 true (.bin .eql (.t 73) (oI 1)),gI 75 (.pick (.t 72) (.t 74) (.v (.bool false)))] (kP [0,1,2,3,4,10,11,12,13,75,1000001] [1000001] [1000000]))
 (.cond (.t 75)
 (.seq (.reg false [gM 76 0,gM 77 1,gM 78 2,gM 79 4,gI 80 (.call (.f 148) [(.t 76),(.t 77),(.t 78),(.t 79)])] (kP [0,1,2,3,4,10,11,12,13,80,1000001] [1000001] [1000000]))
 (.cond (.t 80)
 .ret
 .skip))
 .skip))
 (.seq (.seq (.reg true [gM 81 1,gI 82 (.bin .gtr (.t 81) (oI 0)),gM 83 82,gG 84 83 true (.mv (.t 4)),gG 85 83 true (.mv (.t 0)),gG 86 83 true (.mv (.t 1)),gG 87 83 true (.bin .sub (.t 86) (oI 1)),gG 88 83 true (.iadr 3 (.t 85) (.t 87)),gG 89 83 true (.load true 3 (.t 88)),gG 90 83 true (.mv (.t 0)),gG 91 83 true (.mv (.t 13)),gG 92 83 true (.iadr 3 (.t 90) (.t 91)),gG 93 83 true (.load true 3 (.t 92)),gG 94 83 true (.call (.t 84) [(.t 89),(.t 93)]),gG 95 83 true (.bin .lss (.t 94) (oI 0)),gG 96 83 true (.un .not (.t 95)),gI 97 (.pick (.t 83) (.t 96) (.v (.bool false)))] (kP [0,1,2,3,4,10,11,12,13,97,1000001] [1000001] [1000000]))
 (.cond (.t 97)
 (.seq (.reg false [gM 98 0,gM 99 1,gM 100 2,gM 101 13,gM 102 4,gI 103 (.call (.f 149) [(.t 98),(.t 99),(.t 100),(.t 101),(.t 102)]),gM 15 103] (kP [0,2,3,4,10,11,15,1000001] [1000001] [1000000]))
 (.seq (.reg false [gM 104 15,gM 1 104] (kP [0,1,2,3,4,10,11,1000001] [1000001] [1000000]))
 (.exit 1)))
 .skip))
 (.seq (.reg false [gM 106 0,gM 107 1,gM 108 2,gM 109 13,gM 110 4,gI 111 (.call (.f 150) [(.t 106),(.t 107),(.t 108),(.t 109),(.t 110)]),gM 105 111,gI 112 (.extr (.t 105) 0),gI 113 (.extr (.t 105) 1),gM 16 112,gM 17 113] (kP [0,1,2,3,4,12,16,17,1000001] [1000001] [1000000]))
 (.seq (.reg false [gM 114 17,gM 11 114] (kP [0,1,2,3,4,11,12,16,1000001] [1000001] [1000000]))
 (.seq (.reg false [gM 115 16,gM 116 1,gI 117 (.bin .sub (.t 115) (.t 116)),gM 118 2,gM 119 16,gI 120 (.bin .sub (.t 118) (.t 119)),gM 18 117,gM 19 120] (kP [0,1,2,3,4,11,12,16,18,19,1000001] [1000001] [1000000]))
 (.seq (.reg false [gM 121 12,gI 122 (.bin .quo (.t 121) (oI 8)),gM 20 122] (kP [0,1,2,3,4,11,16,18,19,20,1000001] [1000001] [1000000]))
 (.seq (.reg false [gM 123 18,gM 124 19,gI 125 (.bin .lss (.t 123) (.t 124))] (kP [0,1,2,3,4,11,16,18,19,20,125,1000001] [1000001] [1000000]))
 (.cond (.t 125)
 (.seq (.reg false [gM 126 18,gM 127 20,gI 128 (.bin .geq (.t 126) (.t 127)),gM 10 128] (kP [0,1,2,3,4,10,11,16,1000001] [1000001] [1000000]))
 (.seq (.reg false [gM 129 0,gM 130 1,gM 131 16,gM 132 3,gM 133 4,gI 134 (.call (.f 103) [(.t 129),(.t 130),(.t 131),(.t 132),(.t 133)])] (kP [0,2,3,4,10,11,16,1000001] [1000001] [1000000]))
 (.reg false [gM 135 16,gI 136 (.bin .add (.t 135) (oI 1)),gM 1 136] (kP [0,1,2,3,4,10,11,1000001] [1000001] [1000000]))))
 (.seq (.reg false [gM 137 19,gM 138 20,gI 139 (.bin .geq (.t 137) (.t 138)),gM 10 139] (kP [0,1,2,3,4,10,11,16,1000001] [1000001] [1000000]))
 (.seq (.reg false [gM 140 0,gM 141 16,gI 142 (.bin .add (.t 141) (oI 1)),gM 143 2,gM 144 3,gM 145 4,gI 146 (.call (.f 103) [(.t 140),(.t 142),(.t 143),(.t 144),(.t 145)])] (kP [0,1,3,4,10,11,16,1000001] [1000001] [1000000]))
 (.reg false [gM 147 16,gM 2 147] (kP [0,1,2,3,4,10,11,1000001] [1000001] [1000000])))))))))))))))))))))))
theorem fcms_pdqZ : FsT Tryz.prog 103 Tryz.f103 C_pdqZ [] := fcms_mk [aN [0,1,2,3,4,10,1000001] [1000001] [1000000],aN [0,1,2,3,4,10,11,1000001] [1000001] [1000000],aN [0,1,2,3,4,10,11,12,1000001] [1000001] [1000000],aN [0,1,2,3,4,10,11,12,25,1000001] [1000001] [1000000],⟨(kP [] [1000001] [1000000]),[],[],[],[(30,⟨[1000001],[1000000],[1000001],[1000000],[1000000]⟩)]⟩,aN [0,1,2,3,4,10,11,12,32,1000001] [1000001] [1000000],aN [] [1000001] [1000000],aN [0,1,2,3,4,10,11,12,39,1000001] [1000001] [1000000],aN [0,1,2,3,4,10,11,12,1000001] [1000001] [1000000],aN [0,1,2,3,4,10,11,12,1000001] [1000001] [1000000],aN [0,1,2,3,4,10,11,12,13,14,1000001] [1000001] [1000000],aN [0,1,2,3,4,10,11,12,13,14,56,1000001] [1000001] [1000000],aN [0,1,2,3,4,10,11,12,13,1000001] [1000001] [1000000],aN [0,1,2,3,4,10,11,12,13,1000001] [1000001] [1000000],aN [0,1,2,3,4,10,11,12,13,14,1000001] [1000001] [1000000],aN [0,1,2,3,4,10,11,12,13,75,1000001] [1000001] [1000000],aN [0,1,2,3,4,10,11,12,13,80,1000001] [1000001] [1000000],aN [0,1,2,3,4,10,11,12,13,97,1000001] [1000001] [1000000],aN [0,2,3,4,10,11,15,1000001] [1000001] [1000000],aN [0,1,2,3,4,10,11,1000001] [1000001] [1000000],aN [0,1,2,3,4,12,16,17,1000001] [1000001] [1000000],aN [0,1,2,3,4,11,12,16,1000001] [1000001] [1000000],aN [0,1,2,3,4,11,12,16,18,19,1000001] [1000001] [1000000],aN [0,1,2,3,4,11,16,18,19,20,1000001] [1000001] [1000000],aN [0,1,2,3,4,11,16,18,19,20,125,1000001] [1000001] [1000000],aN [0,1,2,3,4,10,11,16,1000001] [1000001] [1000000],aN [0,2,3,4,10,11,16,1000001] [1000001] [1000000],aN [0,1,2,3,4,10,11,1000001] [1000001] [1000000],aN [0,1,2,3,4,10,11,16,1000001] [1000001] [1000000],aN [0,1,3,4,10,11,16,1000001] [1000001] [1000000],aN [0,1,2,3,4,10,11,1000001] [1000001] [1000000]] Tryz.func103 (by kernel_rfl)
def C_srtZ : AC := (.seq (.reg false [gM 5 0,gI 6 (.len (.t 5)),gM 4 6] (kP [0,1,4,1000001] [1000001] [1000000]))
 (.reg false [gM 7 0,gM 8 4,gM 9 4,gI 10 (.conv .u64 (.t 9)),gI 11 (.call (.f 104) [(.t 10)]),gM 12 1,gI 13 (.callm (.f 103) [(.t 7),(oI 0),(.t 8),(.t 11),(.t 12)] ⟨[1000001],[1000000],[1000001],[1000000],[1000000]⟩)] (kP [] [1000001] [1000000])))
theorem fcms_srtZ : FsT Tryz.prog 47 Tryz.f47 C_srtZ [] := fcms_mk [aN [0,1,4,1000001] [1000001] [1000000],⟨(kP [] [1000001] [1000000]),[],[],[],[(13,⟨[1000001],[1000000],[1000001],[1000000],[1000000]⟩)]⟩] Tryz.func47 (by kernel_rfl)
def C_bitsLenZ : AC := (.seq (.reg false [gI 2 (.mv (oI 0))] (kP [0] [] []))
 (.seq (.cond (.v (.bool false))
 (.seq (.reg false [gM 3 0,gI 4 (.conv .u32 (.t 3)),gI 5 (.call (.f 151) [(.t 4)]),gM 2 5] (kP [2] [] []))
 .ret)
 .skip)
 (.seq (.reg false [gM 6 0,gI 7 (.call (.f 152) [(.t 6)]),gM 2 7] (kP [2] [] []))
 .ret)))
theorem fc_bitsLenZ : FcT Tryz.prog 104 Tryz.f104 C_bitsLenZ [.t 2] := fc_mk [aN [0] [] [],aN [2] [] [],aN [2] [] []] Tryz.func104 (by kernel_rfl)
def C_bitsLen64Z : AC := (.seq (.reg false [gI 2 (.mv (oI 0))] (kP [0,2] [] []))
 (.seq (.seq (.reg false [gM 3 0,gI 4 (.bin .geq (.t 3) (.v (.int .u64 (4294967296))))] (kP [0,2,4] [] []))
 (.cond (.t 4)
 (.seq (.reg false [gM 5 0,gI 6 (.bin .shr (.t 5) (.v (.int .u64 (32)))),gM 0 6] (kP [0] [] []))
 (.reg false [gI 2 (.mv (oI 32))] (kP [0,2] [] [])))
 .skip))
 (.seq (.seq (.reg false [gM 7 0,gI 8 (.bin .geq (.t 7) (.v (.int .u64 (65536))))] (kP [0,2,8] [] []))
 (.cond (.t 8)
 (.seq (.reg false [gM 9 0,gI 10 (.bin .shr (.t 9) (.v (.int .u64 (16)))),gM 0 10] (kP [0,2] [] []))
 (.reg false [gM 11 2,gI 12 (.bin .add (.t 11) (oI 16)),gM 2 12] (kP [0,2] [] [])))
 .skip))
 (.seq (.seq (.reg false [gM 13 0,gI 14 (.bin .geq (.t 13) (.v (.int .u64 (256))))] (kP [0,2,14] [] []))
 (.cond (.t 14)
 (.seq (.reg false [gM 15 0,gI 16 (.bin .shr (.t 15) (.v (.int .u64 (8)))),gM 0 16] (kP [0,2] [] []))
 (.reg false [gM 17 2,gI 18 (.bin .add (.t 17) (oI 8)),gM 2 18] (kP [0,2] [] [])))
 .skip))
 (.seq (.reg false [gM 19 2,gM 20 0,gI 21 (.conv .u8 (.t 20)),gI 22 (.idx (.v (.string (ByteArray.mk #[0,1,2,2,3,3,3,3,4,4,4,4,4,4,4,4,5,5,5,5,5,5,5,5,5,5,5,5,5,5,5,5,6,6,6,6,6,6,6,6,6,6,6,6,6,6,6,6,6,6,6,6,6,6,6,6,6,6,6,6,6,6,6,6,7,7,7,7,7,7,7,7,7,7,7,7,7,7,7,7,7,7,7,7,7,7,7,7,7,7,7,7,7,7,7,7,7,7,7,7,7,7,7,7,7,7,7,7,7,7,7,7,7,7,7,7,7,7,7,7,7,7,7,7,7,7,7,7,8,8,8,8,8,8,8,8,8,8,8,8,8,8,8,8,8,8,8,8,8,8,8,8,8,8,8,8,8,8,8,8,8,8,8,8,8,8,8,8,8,8,8,8,8,8,8,8,8,8,8,8,8,8,8,8,8,8,8,8,8,8,8,8,8,8,8,8,8,8,8,8,8,8,8,8,8,8,8,8,8,8,8,8,8,8,8,8,8,8,8,8,8,8,8,8,8,8,8,8,8,8,8,8,8,8,8,8,8,8,8,8,8,8,8,8,8,8,8,8,8,8,8,8,8,8,8,8]))) (.t 21)),gI 23 (.conv .i64 (.t 22)),gI 24 (.bin .add (.t 19) (.t 23)),gM 2 24] (kP [2] [] []))
 .ret)))))
theorem fc_bitsLen64Z : FcT Tryz.prog 152 Tryz.f152 C_bitsLen64Z [.t 2] := fc_mk [aN [0,2] [] [],aN [0,2,4] [] [],aN [0] [] [],aN [0,2] [] [],aN [0,2,8] [] [],aN [0,2] [] [],aN [0,2] [] [],aN [0,2,14] [] [],aN [0,2] [] [],aN [0,2] [] [],aN [2] [] []] Tryz.func152 (by kernel_rfl)
def C_stnC : AC := (.reg false [gI 1 (.box (.t 0))] (kP [] [] []))
theorem fc_stnC : FcT Tryz.prog 45 Tryz.f45 C_stnC [] := fc_mk [aN [] [] []] Tryz.func45 (by kernel_rfl)
def C_stnD : AC := (.seq (.reg false [gI 3 (.box (.t 0)),gI 4 (.box (.t 1)),gI 5 (.mv (oI 0))] (kP [2,3,4] [3,4] []))
 (.seq (.reg true [gI 8 (.load false 1 (.t 2)),gI 9 (.load false 1 (.t 2)),gI 10 (.fadr 0 (.t 3)),gI 11 (.load false 1 (.t 10)),gI 12 (.call (.f 42) [(.t 9),(.t 11)]),gI 13 (.iadr 10 (.t 8) (.t 12)),gI 14 (.fadr 7 (.t 13)),gI 15 (.load false 1 (.t 14)),gI 16 (.load false 1 (.t 2)),gI 17 (.load false 1 (.t 2)),gI 18 (.fadr 0 (.t 4)),gI 19 (.load false 1 (.t 18)),gI 20 (.call (.f 42) [(.t 17),(.t 19)]),gI 21 (.iadr 10 (.t 16) (.t 20)),gI 22 (.fadr 7 (.t 21)),gI 23 (.load false 1 (.t 22)),gM 6 15,gM 7 23] (kP [3,4,6,7] [3,4] []))
 (.seq (.reg true [gM 24 6,gM 25 7,gI 26 (.call (.f 50) [(.t 24),(.t 25)]),gI 27 (.fadr 2 (.t 3)),gI 28 (.load false 1 (.t 27)),gI 29 (.fadr 2 (.t 4)),gI 30 (.load false 1 (.t 29)),gI 31 (.call (.f 50) [(.t 28),(.t 30)]),gI 32 (.fadr 0 (.t 3)),gI 33 (.load false 1 (.t 32)),gI 34 (.fadr 0 (.t 4)),gI 35 (.load false 1 (.t 34)),gI 36 (.call (.f 51) [(.t 33),(.t 35)]),gI 37 (.bslice 1 3 [(.t 26),(.t 31),(.t 36)]),gI 38 (.call (.f 49) [(.t 37)]),gM 5 38] (kP [5] [] []))
 .ret)))
theorem fc_stnD : FcT Tryz.prog 48 Tryz.f48 C_stnD [.t 5] := fc_mk [aN [2,3,4] [3,4] [],aN [3,4,6,7] [3,4] [],aN [5] [] []] Tryz.func48 (by kernel_rfl)
def C_standing : AC := (.seq (.reg false [gI 4 (.box (.t 0)),gI 8 (.mv (.v (.slice none 0 0))),gI 9 (.mv (oI 0))] (kP [1,2,3,4,9021] [4] []))
 (.seq (.seq (.reg false [gI 15 (.load false 1 (.t 4)),gM 16 1,gM 17 2,gI 18 (.call (.f 41) [(.t 15),(.t 16),(.t 17)]),gM 10 18] (kP [1,2,3,4,10,9021] [4] []))
 (.seq (.reg false [gM 19 10,gI 20 (.bin .neq (.t 19) (oI 0))] (kP [1,2,3,4,10,20,9021] [4] []))
 (.cond (.t 20)
 (.seq (.seq (.reg false [gM 21 10,gI 8 (.mv (.v (.slice none 0 0))),gM 9 21] (kP [8,9] [] []))
 (.ty 8 3))
 .ret)
 .skip)))
 (.seq (.seq (.reg false [gM 22 3,gI 23 (.call (.f 43) [(.t 22)]),gI 24 (.un .not (.t 23))] (kP [1,2,3,4,24,9021] [4] []))
 (.cond (.t 24)
 (.seq (.seq (.reg false [gI 8 (.mv (.v (.slice none 0 0))),gI 9 (.mv (oI 1))] (kP [8,9] [] []))
 (.ty 8 3))
 .ret)
 .skip))
 (.seq (.reg false [gI 25 (.load false 1 (.t 4)),gM 26 1,gM 27 2,gI 28 (.callm (.f 37) [(.t 25),(.t 26),(.t 27)] ⟨[],[],[9021],[9019,500021,600021],[]⟩),gM 11 28] (kP [3,4,11,9021] [4,9021] [9019,500021,600021]))
 (.seq (.reg false [gM 29 11,gM 30 3,gI 31 (.callm (.f 38) [(.t 29),(.t 30),(.f 45)] ⟨[9021],[9019,500021,600021],[9021],[9019,500021,600021],[9019,500021]⟩)] (kP [4,11,9021] [4,9021] []))
 (.seq (.seq (.reg false [gI 12 (.mv (.v (.slice none 0 0)))] (kP [4,11,12,9021] [4,9021] []))
 (.own 12 42 3))
 (.seq (.seq (.reg false [gM 32 11,gI 33 (.nilchk (.t 32)),gI 34 (.fadr 5 (.t 33)),gI 35 (.load false 1 (.t 34)),gI 36 (.len (.t 35)),gI 37 (.mv (oI 0))] (kP [4,12,35,36,37] [4] [12]))
 (.block 0 (.loop (.seq (.reg false [gI 38 (.bin .lss (.t 37) (.t 36))] (kP [4,12,35,36,37,38] [4] [12]))
 (.seq (.cond (.t 38)
 .skip
 (.exit 0))
 (.seq (.block 1 (.seq (.reg false [gI 39 (.iadr 3 (.t 35) (.t 37)),gI 40 (.load true 3 (.t 39)),gI 14 (.alloc [(.string (ByteArray.mk #[])),(.int .i64 (0)),(.int .i64 (0))]),gN (.store 3 (.t 14) (.t 40))] (kP [4,12,14,35,36,37] [4,14] [12]))
 (.seq (.reg false [gI 41 (.fadr 1 (.t 14)),gI 42 (.load false 1 (.t 41)),gI 43 (.call (.f 46) [(.t 42),(oI 2),(oI 4)]),gI 44 (.un .not (.t 43))] (kP [4,12,14,35,36,37,44] [4,14] [12]))
 (.cond (.t 44)
 (.reg false [gM 45 12,gI 46 (.load true 3 (.t 14)),gI 47 (.bslice 3 1 [(.t 46)]),gI 48 (.append 42 3 32 (.t 45) (.t 47)),gM 12 48] (kP [4,12,35,36,37] [4] [12]))
 .skip))))
 (.reg false [gI 49 (.bin .add (.t 37) (oI 1)),gM 37 49] (kP [4,12,35,36,37] [4] [12]))))))))
 (.seq (.reg false [gM 50 12,gI 51 (.mkfn 48 [(.t 4)]),gI 52 (.callm (.f 47) [(.t 50),(.t 51)] ⟨[4],[12],[4],[12],[12]⟩)] (kP [12] [] []))
 (.seq (.reg false [gM 53 12,gM 8 53,gI 9 (.mv (oI 0))] (kP [8,9] [] []))
 .ret)))))))))
theorem fc_standing : FcT Tryz.prog 13 Tryz.f13 C_standing [.t 8, .t 9] := fc_mk [aN [1,2,3,4,9021] [4] [],aN [1,2,3,4,10,9021] [4] [],aN [1,2,3,4,10,20,9021] [4] [],⟨(kP [8,9] [] []),[],[],[(8,3)],[]⟩,aN [1,2,3,4,24,9021] [4] [],⟨(kP [8,9] [] []),[],[],[(8,3)],[]⟩,⟨(kP [3,4,11,9021] [4,9021] [9019,500021,600021]),[],[],[],[(28,⟨[],[],[9021],[9019,500021,600021],[]⟩)]⟩,⟨(kP [4,11,9021] [4,9021] []),[],[],[],[(31,⟨[9021],[9019,500021,600021],[9021],[9019,500021,600021],[9019,500021]⟩)]⟩,⟨(kP [4,11,12,9021] [4,9021] []),[(12,42,3)],[],[],[]⟩,aN [4,12,35,36,37] [4] [12],aN [4,12,35,36,37,38] [4] [12],aN [4,12,14,35,36,37] [4,14] [12],aN [4,12,14,35,36,37,44] [4,14] [12],aN [4,12,35,36,37] [4] [12],aN [4,12,35,36,37] [4] [12],⟨(kP [12] [] []),[],[],[],[(52,⟨[4],[12],[4],[12],[12]⟩)]⟩,aN [8,9] [] []] Tryz.func13 (by kernel_rfl)
theorem swz_comm (l : List Std) (i j : Nat) (hij : i ≠ j) : swx l i j = swx l j i := by
 rw [swx_symm l i j hij]; rfl
theorem ssort_onez (c : Std → Std → Int) (U : List Std) : ssort c (U.take 1) ++ U.drop 1 = U := by
 cases U with
 | nil => rfl
 | cons x U =>
  show mrg c [] [x] ++ U = _
  rw [mrg_nil]; rfl
def insZSt (cl : FuncId) (z : Nat) (es : List (List Cel)) (a b : Int) (i : Int) (cur : List Std) : AS := ⟨tabV [(0, .one (.ow 1000000 0)), (1, iv a), (2, iv b), (3, .one (.fn cl [.bx 1000001 0])), (8, iv i), (1000001, .any)], tabO [(1000001, [.sl false z es])], tabO [(1000000, stdRow cur)]⟩
def injZSt (cl : FuncId) (z : Nat) (es : List (List Cel)) (a b i : Int) (j : Int) (cur : List Std) : AS := ⟨tabV [(0, .one (.ow 1000000 0)), (1, iv a), (2, iv b), (3, .one (.fn cl [.bx 1000001 0])), (8, iv i), (9, iv j), (1000001, .any)], tabO [(1000001, [.sl false z es])], tabO [(1000000, stdRow cur)]⟩
structure InzI (c : Std → Std → Int) (P U Y : List Std) (k : Nat) (j : Int) (cur : List Std) (s1 s2 : List Std) : Prop where
 srt : ssort c (U.take k) = s1 ++ s2
 cur : cur = P ++ (s1 ++ (U.getD k default :: (s2 ++ (U.drop (k + 1) ++ Y))))
 j : j = P.length + s1.length
 lt : ∀ w ∈ s2, c (U.getD k default) w < 0
def InzX (c : Std → Std → Int) (P U Y : List Std) (k : Nat) (j : Int) (cur : List Std) : Prop := ∃ s1 s2, InzI c P U Y k j cur s1 s2
def inzC (c : Std → Std → Int) (P U Y : List Std) (k : Nat) : List Std := P ++ (ssort c (U.take k) ++ (U.drop k ++ Y))
theorem inzC_len (c : Std → Std → Int) (P U Y : List Std) (k : Nat) : (inzC c P U Y k).length = P.length + U.length + Y.length := by
 simp [inzC, ssort_length]; omega
theorem inz_start {c : Std → Std → Int} {P U Y : List Std} {k : Nat} (hk : k < U.length) : InzX c P U Y k (P.length + k) (inzC c P U Y k) := by
 refine ⟨ssort c (U.take k), [], by simp, ?_, ?_, by simp⟩
 ·unfold inzC; rw [drop_here hk]; simp
 ·rw [ssort_length, List.length_take]; omega
theorem inz_end {p : Std → Prop} {c : Std → Std → Int} (h : Swo p c) {P U Y : List Std} {k : Nat} {j : Int} {cur s1 s2 : List Std} (hp : ∀ x ∈ U, p x) (hk : k < U.length) (hI : InzI c P U Y k j cur s1 s2) (hs : ∀ x ∈ s1, ¬c (U.getD k default) x < 0) : cur = inzC c P U Y (k + 1) := by
 unfold inzC
 rw [take_snoc hk, ssort_snoc, hI.srt, mrg_last hs hI.lt, hI.cur]; simp
theorem inz_ge {p : Std → Prop} {c : Std → Std → Int} (h : Swo p c) {P U Y : List Std} {k : Nat} {j : Int} {cur s2 s : List Std} {w : Std} (hp : ∀ x ∈ U, p x) (hk : k < U.length) (hI : InzI c P U Y k j cur (s ++ [w]) s2) (hw : ¬c (U.getD k default) w < 0) : ∀ x ∈ s ++ [w], ¬c (U.getD k default) x < 0 := by
 intro x hx
 have po : ∀ x ∈ U.take k, p x := fun x hx => hp x (List.mem_of_mem_take hx)
 have ho := ssort_ord h po
 rw [hI.srt] at ho
 have hm : ∀ y, y ∈ s ++ [w] → p y := fun y hy => po y (ssort_mem.1 (hI.srt ▸ List.mem_append_left _ hy))
 rcases List.mem_append.1 hx with hx | hx
 ·have h1 := (List.pairwise_append.1 (List.pairwise_append.1 ho).1).2.2 x hx w (by simp)
  exact h.ntr _ _ _ (hp _ (mem_at hk)) (hm w (by simp)) (hm x (by simp [hx])) hw h1
 ·simp at hx; subst hx; exact hw
theorem inz_at {c : Std → Std → Int} {P U Y : List Std} {k : Nat} {j : Int} {cur s2 s : List Std} {w : Std} (hI : InzI c P U Y k j cur (s ++ [w]) s2) :
  cur.getD j.toNat default = U.getD k default ∧ cur.getD (j - 1).toNat default = w ∧ P.length + 1 ≤ j ∧ (cur.set j.toNat (cur.getD (j - 1).toNat default)).set (j - 1).toNat (cur.getD j.toNat default) = P ++ (s ++ (U.getD k default :: ((w :: s2) ++ (U.drop (k + 1) ++ Y)))) := by
 have hj := hI.j
 rw [List.length_append, List.length_singleton] at hj
 have e1 : cur = (P ++ s) ++ w :: ([] ++ U.getD k default :: (s2 ++ (U.drop (k + 1) ++ Y))) := by rw [hI.cur]; simp
 have e2 : cur = (P ++ s ++ [w]) ++ U.getD k default :: (s2 ++ (U.drop (k + 1) ++ Y)) := by rw [hI.cur]; simp
 have e3 : j.toNat = (P ++ s ++ [w]).length := by simp; omega
 have e4 : (j - 1).toNat = (P ++ s).length := by simp; omega
 refine ⟨by rw [e2, e3, getD_app], by rw [e1, e4, getD_app], by omega, ?_⟩
 show swx cur j.toNat (j - 1).toNat = _
 rw [swz_comm _ _ _ (by omega), e1, swx_split e4 (by simp; omega)]
 simp
set_option maxHeartbeats 2000000 in
theorem insZ_fcm (cl : FuncId) {c : Std → Std → Int} {p : Std → Prop} (hS : Swo p c) (z : Nat) (es : List (List Cel)) (hcl : ∀ x y, p x → p y → FC Tryz.prog cl none [.ag (stdS x), .ag (stdS y), .one (.ep [.sl false z es])] (fun _ r => r = iv (c x y)))
  (P U Y cur0 : List Std) (hc : cur0 = P ++ (U ++ Y)) (hp : ∀ x ∈ U, p x) (hlen : cur0.length ≤ 1000000) (a b : Int) (ha : a = P.length) (hb : b = P.length + U.length) :
  FCMS Tryz.prog 143 [1000000] ⟨[(1000001, [.sl false z es])], [(1000000, stdRow cur0)]⟩ [.one (.ow 1000000 0), iv a, iv b, .one (.fn cl [.bx 1000001 0])] (fun H r => H = ⟨[(1000001, [.sl false z es])], [(1000000, stdRow (P ++ (ssort c U ++ Y)))]⟩ ∧ r = .tu []) := by
 refine fcms_insZ (K := ⟨[], [1000001], [1000000]⟩) (by simp +arith) (by simp [XK]) (by simp [XK]) ?_
 have h0 : cur0 = inzC c P U Y 1 := by
  rw [hc]; unfold inzC
  rw [← List.append_assoc (ssort c _), ssort_onez]
 have hl0 : P.length + U.length + Y.length ≤ 1000000 := by rw [h0, inzC_len] at hlen; exact hlen
 unfold C_insZ
 simp (maxSteps := 1000000) (disch := omega) only [go_sem]
 refine ex_loop1 (fun i => insZSt cl z es a b i (inzC c P U Y (i - a).toNat)) (fun i => a + 1 ≤ i ∧ (1 ≤ U.length → i ≤ b)) (fun i => (b - i).toNat) (a + 1) ⟨by omega, by omega⟩ (by rw [show (a + 1 - a).toNat = 1 by omega, ← h0]; rfl) ?_
 rintro i ⟨g1, g2⟩
 unfold insZSt
 by_cases hi : i < b
 ·have hk : (i - a).toNat < U.length := by omega
  simp (maxSteps := 1000000) (disch := omega) only [go_sem]
  refine ex_loop2 (injZSt cl z es a b i) (fun j cur => InzX c P U Y (i - a).toNat j cur) (fun j _ => j.toNat) i (inzC c P U Y (i - a).toNat) (by have := inz_start (c := c) (P := P) (Y := Y) hk; rw [show (P.length : Int) + ((i - a).toNat : Int) = i by omega] at this; exact this) rfl ?_
  rintro j cur ⟨s1, s2, hI⟩
  have hjj := hI.j
  have hcl2 : cur.length = P.length + U.length + Y.length := by
   have h5 : (ssort c (U.take (i - a).toNat)).length = s1.length + s2.length := by rw [hI.srt]; simp
   rw [ssort_length, List.length_take] at h5
   rw [hI.cur]; simp; omega
  have hss : s1.length ≤ (i - a).toNat := by
   have h5 : (ssort c (U.take (i - a).toNat)).length = s1.length + s2.length := by rw [hI.srt]; simp
   rw [ssort_length, List.length_take] at h5; omega
  unfold injZSt
  by_cases hj : a < j
  ·have hne : s1 ≠ [] := fun he => by subst he; simp at hjj; omega
   obtain ⟨s, w, rfl⟩ : ∃ s w, s1 = s ++ [w] := ⟨s1.dropLast, s1.getLast hne, (List.dropLast_concat_getLast hne).symm⟩
   obtain ⟨i1, i2, i3, i4⟩ := inz_at hI
   have ej := getD_map_at stdS cur j [] (by omega) (by omega)
   have ek := getD_map_at stdS cur (j - 1) [] (by omega) (by omega)
   have hmw : w ∈ U.take (i - a).toNat := (ssort_mem (c := c)).1 (by rw [hI.srt]; simp)
   have hcc := hcl _ _ (hp _ (mem_at hk)) (hp w (List.mem_of_mem_take hmw))
   rw [← i1, ← i2, stdS_eq, stdS_eq] at hcc
   simp (maxSteps := 1000000) (disch := omega) only [go_sem]
   refine CALL_det hcc (.inl rfl) ?_
   by_cases hlt : c (cur.getD j.toNat default) (cur.getD (j - 1).toNat default) < 0
   ·have el : ((cur.map stdS).set j.toNat (stdS (cur.getD (j - 1).toNat default))).length = cur.length := by simp
    have eo := setE_other (cur.map stdS) (stdS (cur.getD (j - 1).toNat default)) (show (j - 1).toNat ≠ j.toNat by omega)
    rw [getE_map_in stdS cur (j - 1).toNat (by omega)] at eo
    simp only [stdS_eq] at el eo
    simp (maxSteps := 1000000) (disch := omega) only [go_sem]
    rw [eo]
    simp (maxSteps := 1000000) (disch := omega) only [go_sem]
    refine ⟨j - 1, (cur.set j.toNat (cur.getD (j - 1).toNat default)).set (j - 1).toNat (cur.getD j.toNat default), by simp only [injZSt, stdRow, List.map_set, stdS_eq], ⟨s, w :: s2, ?_, ?_, ?_, ?_⟩, by omega⟩
    ·rw [hI.srt]; simp
    ·rw [i4]
    ·rw [List.length_append, List.length_singleton] at hjj; omega
    ·intro x hx
     rcases List.mem_cons.1 hx with rfl | hx
     ·rw [i1, i2] at hlt; exact hlt
     ·exact hI.lt x hx
   ·simp (maxSteps := 1000000) (disch := omega) only [go_sem]
    rw [i1, i2] at hlt
    have he := inz_end hS hp hk hI (inz_ge hS hp hk hI hlt)
    exact ⟨i + 1, by rw [show (i + 1 - a).toNat = (i - a).toNat + 1 by omega, ← he], ⟨by omega, by omega⟩, by omega⟩
  ·have hs0 : s1 = [] := List.length_eq_zero_iff.1 (by omega)
   subst hs0
   simp (maxSteps := 1000000) (disch := omega) only [go_sem]
   have he := inz_end hS hp hk hI (by simp)
   exact ⟨i + 1, by rw [show (i + 1 - a).toNat = (i - a).toNat + 1 by omega, ← he], ⟨by omega, by omega⟩, by omega⟩
 ·have he : inzC c P U Y (i - a).toNat = P ++ (ssort c U ++ Y) := by
   unfold inzC
   rw [List.take_of_length_le (by omega), List.drop_eq_nil_of_le (by omega)]; simp
  rw [he]
  simp (maxSteps := 1000000) (disch := omega) only [go_sem]
set_option maxRecDepth 20000 in
theorem bitsLen64Z_fc (n : Int) (h : 0 ≤ n ∧ n ≤ 12) : ∃ v : Int, FC Tryz.prog 152 none [.one (.g (.int .u64 n))] (fun _ r => r = iv v) := by
 obtain ⟨h1, h2⟩ := h
 refine Exists.imp (fun v => fc_bitsLen64Z (by simp +arith)) ?_
 unfold C_bitsLen64Z
 generalize hb : ByteArray.mk _ = tab
 have hs : tab.size = 256 := by subst hb; rfl
 clear hb
 apply Exists.intro
 simp (maxSteps := 1000000) (disch := omega) only [go_sem]
 rw [IntWalk.u8_in n ⟨h1, by omega⟩, hs]
 exact ⟨by omega, rfl⟩
theorem bitsLenZ_fc (n : Int) (h : 0 ≤ n ∧ n ≤ 12) : ∃ v : Int, FC Tryz.prog 104 none [.one (.g (.int .u64 n))] (fun _ r => r = iv v) := by
 obtain ⟨v, hv⟩ := bitsLen64Z_fc n h
 refine ⟨v, fc_bitsLenZ (by simp +arith) ?_⟩
 unfold C_bitsLenZ
 simp (maxSteps := 1000000) (disch := omega) only [go_sem]
 refine CALL_det hv (.inl rfl) ?_
 simp (maxSteps := 1000000) (disch := omega) only [go_sem]
theorem pdqZ_fcm (cl : FuncId) {c : Std → Std → Int} {p : Std → Prop} (hS : Swo p c) (z : Nat) (es : List (List Cel)) (hcl : ∀ x y, p x → p y → FC Tryz.prog cl none [.ag (stdS x), .ag (stdS y), .one (.ep [.sl false z es])] (fun _ r => r = iv (c x y))) (d : List Std) (hp : ∀ x ∈ d, p x) (hlen : d.length ≤ 12) (w : Val) :
  FCMS Tryz.prog 103 [1000000] ⟨[(1000001, [.sl false z es])], [(1000000, stdRow d)]⟩ [.one (.ow 1000000 0), iv 0, iv d.length, w, .one (.fn cl [.bx 1000001 0])] (fun H r => H = ⟨[(1000001, [.sl false z es])], [(1000000, stdRow (ssort c d))]⟩ ∧ r = .tu []) := by
 refine fcms_pdqZ (K := ⟨[], [1000001], [1000000]⟩) (by simp +arith) (by simp [XK]) (by simp [XK]) ?_
 have hi := insZ_fcm cl hS z es hcl [] d [] d (by simp) hp (by omega) 0 d.length (by simp) (by simp)
 rw [List.nil_append, List.append_nil] at hi
 unfold C_pdqZ
 simp (maxSteps := 1000000) (disch := omega) only [go_sem]
 refine ex_rnd 1 ?_
 simp (maxSteps := 1000000) (disch := omega) only [go_sem]
 refine ⟨rfl, CALLM_det hi ⟨rfl, rfl⟩ ?_⟩
 simp (maxSteps := 1000000) (disch := omega) only [go_sem]
theorem srtZ_fcm (cl : FuncId) {c : Std → Std → Int} {p : Std → Prop} (hS : Swo p c) (z : Nat) (es : List (List Cel)) (hcl : ∀ x y, p x → p y → FC Tryz.prog cl none [.ag (stdS x), .ag (stdS y), .one (.ep [.sl false z es])] (fun _ r => r = iv (c x y))) (d : List Std) (hp : ∀ x ∈ d, p x) (hlen : d.length ≤ 12) :
  FCMS Tryz.prog 47 [1000000] ⟨[(1000001, [.sl false z es])], [(1000000, stdRow d)]⟩ [.one (.ow 1000000 0), .one (.fn cl [.bx 1000001 0])] (fun H r => H = ⟨[(1000001, [.sl false z es])], [(1000000, stdRow (ssort c d))]⟩ ∧ r = .tu []) := by
 refine fcms_srtZ (K := ⟨[], [1000001], [1000000]⟩) (by simp +arith) (by simp [XK]) (by simp [XK]) ?_
 unfold C_srtZ
 obtain ⟨v, hv⟩ := bitsLenZ_fc d.length (by omega)
 simp (maxSteps := 1000000) (disch := omega) only [go_sem]
 refine CALL_det hv (.inl rfl) ?_
 simp (maxSteps := 1000000) (disch := omega) only [go_sem]
 refine ⟨rfl, CALLM_det (pdqZ_fcm cl hS z es hcl d hp hlen (iv v)) ⟨rfl, rfl⟩ ?_⟩
 simp (maxSteps := 1000000) (disch := omega) only [go_sem]
def priA (l : List Alm) (key : ByteArray) : Int := (l.getD (idxA l key).toNat default).pr
def cmpZ (l : List Alm) (x y : Std) : Int := orSp [sd (priA l y.al) (priA l x.al), sd y.si x.si, cmpS x.al y.al]
def ltZ (l : List Alm) (x y : Std) : Prop := priA l x.al < priA l y.al ∨ (priA l x.al = priA l y.al ∧ (x.si < y.si ∨ (x.si = y.si ∧ ltS x.al y.al)))
theorem orSp3 (x y z : Int) : orSp [x, y, z] = if x ≠ 0 then x else if y ≠ 0 then y else z := by
 unfold orSp orSp orSp orSp
 split
 ·rfl
 ·split
  ·rfl
  ·split <;> omega
theorem cmpZ_lt (l : List Alm) (x y : Std) : cmpZ l x y < 0 ↔ ltZ l x y := by
 unfold cmpZ ltZ
 rw [orSp3]
 rcases sd_cases (priA l y.al) (priA l x.al) with ⟨h1, h2⟩ | ⟨h1, h2⟩ | ⟨h1, h2⟩ <;> rw [h2]
 ·rw [if_pos (by omega)]; exact ⟨fun _ => .inl h1, fun _ => by omega⟩
 ·rw [if_pos (by omega)]; exact ⟨fun h => by omega, fun h => by rcases h with h | h <;> omega⟩
 ·rw [if_neg (by omega)]
  rcases sd_cases y.si x.si with ⟨h3, h4⟩ | ⟨h3, h4⟩ | ⟨h3, h4⟩ <;> rw [h4]
  ·rw [if_pos (by omega)]; exact ⟨fun _ => .inr ⟨h1, .inl h3⟩, fun _ => by omega⟩
  ·rw [if_pos (by omega)]; exact ⟨fun h => by omega, fun h => by rcases h with h | ⟨_, h | h⟩ <;> omega⟩
  ·rw [if_neg (by omega)]
   rcases cmpS_is x.al y.al with ⟨h5, h6⟩ | ⟨h5, h6⟩ | ⟨h5, h6⟩ <;> rw [h5]
   ·refine ⟨fun h => by omega, fun h => ?_⟩
    rcases h with h | ⟨_, h | h⟩
    ·omega
    ·omega
    ·rw [h6] at h; exact absurd h.2 (ltS_irr _)
   ·exact ⟨fun _ => .inr ⟨h1, .inr ⟨h3, h6⟩⟩, fun _ => by omega⟩
   ·refine ⟨fun h => by omega, fun h => ?_⟩
    rcases h with h | ⟨_, h | h⟩
    ·omega
    ·omega
    ·exact absurd h6 (ltS_asymm h.2)
theorem ltZ_tr {l : List Alm} {x y z : Std} (h1 : ltZ l x y) (h2 : ltZ l y z) : ltZ l x z := by
 unfold ltZ at *
 rcases h1 with h1 | ⟨h1, h3⟩ <;> rcases h2 with h2 | ⟨h2, h4⟩
 ·exact .inl (by omega)
 ·exact .inl (by omega)
 ·exact .inl (by omega)
 ·refine .inr ⟨by omega, ?_⟩
  rcases h3 with h3 | ⟨h3, h5⟩ <;> rcases h4 with h4 | ⟨h4, h6⟩
  ·exact .inl (by omega)
  ·exact .inl (by omega)
  ·exact .inl (by omega)
  ·exact .inr ⟨by omega, ltS_trans h5 h6⟩
theorem ltZ_co {l : List Alm} {x z : Std} (y : Std) (h : ltZ l x z) : ltZ l x y ∨ ltZ l y z := by
 unfold ltZ at *
 rcases (show priA l x.al < priA l y.al ∨ priA l y.al < priA l x.al ∨ priA l x.al = priA l y.al by omega) with h1 | h1 | h1
 ·exact .inl (.inl h1)
 ·exact .inr (.inl (by rcases h with h | h <;> omega))
 ·rcases h with h | ⟨h, h'⟩
  ·exact .inr (.inl (by omega))
  ·rcases (show x.si < y.si ∨ y.si < x.si ∨ x.si = y.si by omega) with h2 | h2 | h2
   ·exact .inl (.inr ⟨h1, .inl h2⟩)
   ·exact .inr (.inr ⟨by omega, .inl (by rcases h' with h' | h' <;> omega)⟩)
   ·rcases h' with h' | ⟨h3, h'⟩
    ·exact .inr (.inr ⟨by omega, .inl (by omega)⟩)
    ·rcases ltS_or x.al y.al with h4 | h4 | h4
     ·exact .inl (.inr ⟨h1, .inr ⟨h2, h4⟩⟩)
     ·exact .inr (.inr ⟨by omega, .inr ⟨by omega, h4 ▸ h'⟩⟩)
     ·exact .inr (.inr ⟨by omega, .inr ⟨by omega, ltS_trans h4 h'⟩⟩)
theorem zSwo (l : List Alm) (p : Std → Prop) : Swo p (cmpZ l) where
 irr x _ h := by
  rcases (cmpZ_lt l x x).1 h with h | ⟨_, h | h⟩
  ·omega
  ·omega
  ·exact ltS_irr _ h.2
 tr x y z _ _ _ h1 h2 := (cmpZ_lt l x z).2 (ltZ_tr ((cmpZ_lt l x y).1 h1) ((cmpZ_lt l y z).1 h2))
 ntr x y z _ _ _ h1 h2 h3 := by
  rcases ltZ_co y ((cmpZ_lt l x z).1 h3) with h | h
  ·exact h1 ((cmpZ_lt l x y).2 h)
  ·exact h2 ((cmpZ_lt l y z).2 h)
theorem stnC_fc (x : Std) : FC Tryz.prog 45 none [.ag (stdS x)] (fun _ r => r = .tu []) := by
 refine fc_stnC (by simp +arith) ?_
 unfold C_stnC
 simp (maxSteps := 1000000) (disch := omega) only [go_sem]
theorem stnD_fc (l : List Alm) (hl : l.length ≤ 1000000) (ha : AscG Alm.k l) (x y : Std) (hx : 0 ≤ idxA l x.al) (hy : 0 ≤ idxA l y.al) : FC Tryz.prog 48 none [.ag (stdS x), .ag (stdS y), .one (.ep [.sl false 10 (l.map almS)])] (fun _ r => r = iv (cmpZ l x y)) := by
 refine fc_stnD (by simp +arith) ?_
 have h1 := find_fc x.al l hl ha
 have h2 := find_fc y.al l hl ha
 have r1 := idxA_rng l x.al
 have r2 := idxA_rng l y.al
 have e1 := getD_map_at almS l (idxA l x.al) [] hx (by omega)
 have e2 := getD_map_at almS l (idxA l y.al) [] hy (by omega)
 have ho := orI_fc [sd (priA l y.al) (priA l x.al), sd y.si x.si, cmpS x.al y.al] (by simp)
 rw [show orSp [sd (priA l y.al) (priA l x.al), sd y.si x.si, cmpS x.al y.al] = cmpZ l x y from rfl] at ho
 unfold priA at ho
 unfold C_stnD
 simp (maxSteps := 1000000) (disch := omega) only [go_sem]
 refine CALL_det h1 (.inl rfl) ?_
 simp (maxSteps := 1000000) (disch := omega) only [go_sem]
 refine CALL_det h2 (.inl rfl) ?_
 simp (maxSteps := 1000000) (disch := omega) only [go_sem]
 refine CALL_det (cmpInt_fc _ _) (.inl rfl) ?_
 simp (maxSteps := 1000000) (disch := omega) only [go_sem]
 refine CALL_det (cmpInt_fc _ _) (.inl rfl) ?_
 simp (maxSteps := 1000000) (disch := omega) only [go_sem]
 refine CALL_det (cmpS_fc _ _) (.inl rfl) ?_
 simp (maxSteps := 1000000) (disch := omega) only [go_sem]
 refine CALL_det ho (.inl rfl) ?_
 simp (maxSteps := 1000000) (disch := omega) only [go_sem]
def lookP (z : Std) : Bool := decide (2 ≤ z.st ∧ z.st ≤ 4)
def stnL (l : List Alm) (td : List Std) : List Std := ssort (cmpZ l) (td.filter lookP)
def snSt (l : List Alm) (td : List Std) (i : Int) (out : List Std) : AS := ⟨tabV [(4, .one (.bx 4 0)), (12, .one (.ow 12 0)), (35, .one (.sl true 3 (td.map stdS))), (36, iv td.length), (37, iv i)], tabO [(4, [.sl false 10 (l.map almS)])], tabO [(12, stdRow out)]⟩
theorem standing_fc (l : List Alm) (s : List Ser) (a : List Opr) (h : AllOk l s a) (at_ : Int) (h12 : l.length ≤ 12) (hat : 0 ≤ at_ ∧ at_ ≤ 345686399999) (hal : ∀ z ∈ (runA l s a at_).td, 0 ≤ idxA l z.al) :
  FC Tryz.prog 13 none [alms false l, sers false s, oprs false a, iv at_] (fun _ r => r = .tu [.one (.sl true 3 ((stnL l (runA l s a at_).td).map stdS)), iv 0]) := by
 refine fc_standing (by simp +arith) ?_
 have hl := h.al.len
 have hf := aFault_fc l s a h.al h.sm1 h.se h.sm2 h.ac h.sm3
 have hm := moment_fc at_
 rw [decide_eq_true hat] at hm
 have hns := newSite_fcm l s a h.al h.se h.ac (by have := h.ev; omega)
 have hrun := run_fcm 45 stnC_fc l a (evs l s a) at_ (sit0 l) (by omega) (by have := h.ac.len; omega) (fun x hx => par_in h.al _ x hx) h.run
 rw [show runE l a at_ (evs l s a) (sit0 l) = runA l s a at_ from rfl] at hrun
 have htl : (runA l s a at_).td.length = l.length := by unfold runA; rw [runE_td]; simp [sit0]
 generalize runA l s a at_ = T at *
 unfold C_standing
 simp (maxSteps := 1000000) (disch := omega) only [go_sem]
 refine CALL_det hf (.inl rfl) ?_
 simp (maxSteps := 1000000) (disch := omega) only [go_sem]
 refine CALL_det hm (.inl rfl) ?_
 simp (maxSteps := 1000000) (disch := omega) only [go_sem]
 refine ⟨rfl, CALLM_rnE ⟨[(9021, siN 0 l a (evs l s a) (upA l) true)], siR (sit0 l)⟩ (.one (.bx 9021 0)) p21 q19 p21_p q19_q hns (by simp) rfl rfl rfl rfl ⟨rfl, rfl⟩ ?_⟩
 simp (maxSteps := 1000000) (disch := omega) only [go_sem]
 refine ⟨rfl, CALLM_rnES ⟨[(9021, siN 0 l a (restR at_ (evs l s a)) (upA l) false)], siR T⟩ (.tu []) pRun qRun pRun_p qRun_q hrun (by simp) rfl rfl rfl rfl rfl ⟨rfl, rfl⟩ ?_⟩
 simp (maxSteps := 1000000) (disch := omega) only [go_sem]
 refine ex_loop2 (snSt l T.td) (fun i out => 0 ≤ i ∧ i ≤ T.td.length ∧ out = (T.td.take i.toNat).filter lookP) (fun i _ => (T.td.length - i).toNat) 0 [] ⟨by omega, by omega, by simp⟩ rfl ?_
 rintro i out ⟨g1, g2, g3⟩
 unfold snSt
 have hol : out.length ≤ T.td.length := by rw [g3]; exact Nat.le_trans (List.length_filter_le _ _) (by rw [List.length_take]; omega)
 by_cases hi : i < T.td.length
 ·have em := getD_map_at stdS T.td i [] g1 hi
  have ho := out_fc (T.td.getD i.toNat default).st 2 4
  have hsn := take_snocA T.td i g1 hi
  have hl1 : lookP (T.td.getD i.toNat default) = !decide ((T.td.getD i.toNat default).st < 2 ∨ (T.td.getD i.toNat default).st > 4) := by
   unfold lookP
   rw [← decide_not, decide_eq_decide]; omega
  by_cases hc : (T.td.getD i.toNat default).st < 2 ∨ (T.td.getD i.toNat default).st > 4
  ·rw [decide_eq_true hc] at ho hl1
   simp (maxSteps := 1000000) (disch := omega) only [go_sem]
   refine CALL_det ho (.inl rfl) ?_
   simp (maxSteps := 1000000) (disch := omega) only [go_sem]
   refine ⟨i + 1, out, rfl, ⟨by omega, by omega, ?_⟩, by omega⟩
   rw [hsn, List.filter_append, ← g3, List.filter_cons, hl1]; simp
  ·rw [decide_eq_false hc] at ho hl1
   simp (maxSteps := 1000000) (disch := omega) only [go_sem]
   refine CALL_det ho (.inl rfl) ?_
   simp (maxSteps := 1000000) (disch := omega) only [go_sem]
   refine ⟨i + 1, out ++ [T.td.getD i.toNat default], ?_, ⟨by omega, by omega, ?_⟩, by omega⟩
   ·simp only [stdRow, List.map_append, List.map_cons, List.map_nil, stdS_eq]
   ·rw [hsn, List.filter_append, ← g3, List.filter_cons, hl1]; simp
 ·rw [List.take_of_length_le (by omega)] at g3
  have hso := srtZ_fcm 48 (zSwo l (fun z => 0 ≤ idxA l z.al)) 10 (l.map almS) (fun x y hx hy => stnD_fc l (by omega) h.al.up x y hx hy) out (fun z hz => hal z (by rw [g3] at hz; exact (List.mem_filter.1 hz).1)) (by omega)
  rw [g3, show ssort (cmpZ l) (T.td.filter lookP) = stnL l T.td from rfl] at hso
  rw [g3]
  simp (maxSteps := 1000000) (disch := omega) only [go_sem]
  refine ⟨rfl, CALLM_rnES ⟨[(4, [.sl false 10 (l.map almS)])], [(12, stdRow (stnL l T.td))]⟩ (.tu []) (Go.Ai.swp 4 1000001) (Go.Ai.swp 12 1000000) (Go.Ai.swp_swp 4 1000001) (Go.Ai.swp_swp 12 1000000) hso (by simp) rfl rfl rfl rfl rfl ⟨rfl, rfl⟩ ?_⟩
  simp (maxSteps := 1000000) (disch := omega) only [go_sem]
end Go.Proofs.YtcagelfmngmocaaGreatDoor

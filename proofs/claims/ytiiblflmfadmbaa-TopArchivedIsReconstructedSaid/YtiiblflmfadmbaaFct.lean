
/-
 The facts that a top law ends with: samples are reconstructed, and an alarm is active.
-/
import Derived.Test.YtiiblflmfadmbaaCrs
import Derived.Test.YtiiblflmfadmbaaBlk
namespace Go.Proofs.Ytiiblflmfadmbaa
open Go Go.Ai
set_option linter.unusedSimpArgs false
set_option linter.unusedVariables false
set_option maxHeartbeats 4000000
def C_alarmFault : AC := (.seq (.reg false [gI 1 (.box (.t 0)),gI 2 (.mv (oI 0))] (kP [1] [1] []))
 (.seq (.block 0 (.seq (.reg false [gI 4 (.fadr 0 (.t 1)),gI 5 (.load false 1 (.t 4)),gI 6 (.call (.f 46) [(.t 5)]),gI 7 (.un .not (.t 6)),gM 8 7,gG 9 8 false (.fadr 1 (.t 1)),gG 10 8 false (.load false 1 (.t 9)),gG 11 8 false (.call (.f 46) [(.t 10)]),gG 12 8 false (.un .not (.t 11)),gI 13 (.pick (.t 8) (.v (.bool true)) (.t 12)),gM 3 13] (kP [1,3] [1] []))
 (.cond (.t 3)
 (.seq (.reg false [gI 2 (.mv (oI 5))] (kP [2] [] []))
 .ret)
 (.seq (.reg false [gI 15 (.fadr 2 (.t 1)),gI 16 (.load false 1 (.t 15)),gI 17 (.call (.f 37) [(.t 16),(oI 1),(oI 3)]),gM 14 17] (kP [1,14] [1] []))
 (.cond (.t 14)
 (.seq (.reg false [gI 2 (.mv (oI 4))] (kP [2] [] []))
 .ret)
 (.seq (.reg false [gI 19 (.fadr 3 (.t 1)),gI 20 (.load false 1 (.t 19)),gI 21 (.call (.f 37) [(.t 20),(oI (-1000000)),(oI 1000000)]),gM 22 21,gG 23 22 false (.fadr 4 (.t 1)),gG 24 22 false (.load false 1 (.t 23)),gG 25 22 false (.call (.f 37) [(.t 24),(oI 0),(oI 2000000)]),gI 26 (.pick (.t 22) (.v (.bool true)) (.t 25)),gM 27 26,gG 28 27 false (.fadr 5 (.t 1)),gG 29 27 false (.load false 1 (.t 28)),gG 30 27 false (.call (.f 37) [(.t 29),(oI 0),(oI 86400000)]),gI 31 (.pick (.t 27) (.v (.bool true)) (.t 30)),gM 32 31,gG 33 32 false (.fadr 6 (.t 1)),gG 34 32 false (.load false 1 (.t 33)),gG 35 32 false (.call (.f 37) [(.t 34),(oI 0),(oI 86400000)]),gI 36 (.pick (.t 32) (.v (.bool true)) (.t 35)),gM 37 36,gG 38 37 false (.fadr 7 (.t 1)),gG 39 37 false (.load false 1 (.t 38)),gG 40 37 false (.call (.f 37) [(.t 39),(oI 1),(oI 1000)]),gI 41 (.pick (.t 37) (.v (.bool true)) (.t 40)),gM 18 41] (kP [1,18] [1] []))
 (.cond (.t 18)
 (.seq (.reg false [gI 2 (.mv (oI 1))] (kP [2] [] []))
 .ret)
 (.seq (.reg false [gI 43 (.fadr 2 (.t 1)),gI 44 (.load false 1 (.t 43)),gI 45 (.bin .eql (.t 44) (oI 3)),gM 46 45,gG 47 46 true (.fadr 3 (.t 1)),gG 48 46 true (.load false 1 (.t 47)),gG 49 46 true (.bin .neq (.t 48) (oI 0)),gG 50 46 true (.mv (.t 49)),gG 51 50 false (.fadr 4 (.t 1)),gG 52 50 false (.load false 1 (.t 51)),gG 53 50 false (.bin .neq (.t 52) (oI 0)),gG 54 46 true (.pick (.t 50) (.v (.bool true)) (.t 53)),gI 55 (.pick (.t 46) (.t 54) (.v (.bool false))),gM 42 55] (kP [42] [] []))
 (.cond (.t 42)
 (.seq (.reg false [gI 2 (.mv (oI 3))] (kP [2] [] []))
 .ret)
 .skip)))))))))
 (.seq (.reg false [gI 2 (.mv (oI 0))] (kP [2] [] []))
 .ret)))
theorem fc_alarmFault : FcT Try.prog 59 Try.f59 C_alarmFault [.t 2] := fc_mk [aN [1] [1] [],aN [1,3] [1] [],aN [2] [] [],aN [1,14] [1] [],aN [2] [] [],aN [1,18] [1] [],aN [2] [] [],aN [42] [] [],aN [2] [] [],aN [2] [] []] Try.func59 (by kernel_rfl)
def C_untilFault : AC := (.seq (.reg false [gI 3 (.box (.t 0)),gI 6 (.mv (oI 0))] (kP [1,2,3] [3] []))
 (.seq (.reg false [gI 8 (.load true 10 (.t 3)),gI 9 (.call (.f 59) [(.t 8)]),gM 10 1,gI 11 (.call (.f 18) [(.t 10)]),gI 12 (.bslice 1 2 [(.t 9),(.t 11)]),gI 13 (.call (.f 16) [(.t 12)]),gM 7 13] (kP [2,7] [] []))
 (.seq (.seq (.reg false [gM 14 7,gI 15 (.bin .eql (.t 14) (oI 0)),gM 16 15,gG 17 16 true (.mv (.t 2)),gG 18 16 true (.call (.f 37) [(.t 17),(oI 0),(oI 345686400000)]),gI 19 (.pick (.t 16) (.t 18) (.v (.bool false)))] (kP [7,19] [] []))
 (.cond (.t 19)
 (.reg false [gI 7 (.mv (oI 1))] (kP [7] [] []))
 .skip))
 (.seq (.reg false [gM 20 7,gM 6 20] (kP [6] [] []))
 .ret))))
theorem fc_untilFault : FcT Try.prog 43 Try.f43 C_untilFault [.t 6] := fc_mk [aN [1,2,3] [3] [],aN [2,7] [] [],aN [7,19] [] [],aN [7] [] [],aN [6] [] []] Try.func43 (by kernel_rfl)
def C_hold_ : AC := (.seq (.reg false [gI 2 (.box (.t 0)),gI 3 (.box (.t 1)),gI 4 (.mv (.v (.bool false))),gI 5 (.mv (.v (.bool false)))] (kP [2,3] [2,3] []))
 (.seq (.reg false [gI 7 (.fadr 2 (.t 3)),gI 8 (.load false 1 (.t 7)),gI 9 (.bin .eql (.t 8) (oI 2)),gM 6 9] (kP [2,3,6] [2,3] []))
 (.seq (.seq (.reg false [gI 10 (.fadr 2 (.t 2)),gI 11 (.load false 1 (.t 10))] (kP [2,3,6,11] [2,3] []))
 (.block 0 (.seq (.reg false [gI 13 (.bin .eql (.t 11) (oI 1)),gM 12 13] (kP [2,3,6,11,12] [2,3] []))
 (.cond (.t 12)
 (.seq (.reg true [gM 14 6,gI 15 (.un .not (.t 14)),gM 16 15,gG 17 16 true (.fadr 1 (.t 3)),gG 18 16 true (.load false 1 (.t 17)),gG 19 16 true (.fadr 3 (.t 2)),gG 20 16 true (.load false 1 (.t 19)),gG 21 16 true (.bin .gtr (.t 18) (.t 20)),gI 22 (.pick (.t 16) (.t 21) (.v (.bool false))),gM 23 6,gI 24 (.un .not (.t 23)),gM 25 24,gG 26 25 true (.fadr 1 (.t 3)),gG 27 25 true (.load false 1 (.t 26)),gG 28 25 true (.fadr 3 (.t 2)),gG 29 25 true (.load false 1 (.t 28)),gG 30 25 true (.fadr 4 (.t 2)),gG 31 25 true (.load false 1 (.t 30)),gG 32 25 true (.bin .sub (.t 29) (.t 31)),gG 33 25 true (.bin .leq (.t 27) (.t 32)),gI 34 (.pick (.t 25) (.t 33) (.v (.bool false))),gM 4 22,gM 5 34] (kP [4,5] [] []))
 .ret)
 (.seq (.reg false [gI 36 (.bin .eql (.t 11) (oI 2)),gM 35 36] (kP [2,3,6,35] [2,3] []))
 (.cond (.t 35)
 (.seq (.reg true [gM 37 6,gI 38 (.un .not (.t 37)),gM 39 38,gG 40 39 true (.fadr 1 (.t 3)),gG 41 39 true (.load false 1 (.t 40)),gG 42 39 true (.fadr 3 (.t 2)),gG 43 39 true (.load false 1 (.t 42)),gG 44 39 true (.bin .lss (.t 41) (.t 43)),gI 45 (.pick (.t 39) (.t 44) (.v (.bool false))),gM 46 6,gI 47 (.un .not (.t 46)),gM 48 47,gG 49 48 true (.fadr 1 (.t 3)),gG 50 48 true (.load false 1 (.t 49)),gG 51 48 true (.fadr 3 (.t 2)),gG 52 48 true (.load false 1 (.t 51)),gG 53 48 true (.fadr 4 (.t 2)),gG 54 48 true (.load false 1 (.t 53)),gG 55 48 true (.bin .add (.t 52) (.t 54)),gG 56 48 true (.bin .geq (.t 50) (.t 55)),gI 57 (.pick (.t 48) (.t 56) (.v (.bool false))),gM 4 45,gM 5 57] (kP [4,5] [] []))
 .ret)
 .skip))))))
 (.seq (.reg false [gM 58 6,gM 59 6,gI 60 (.un .not (.t 59)),gM 4 58,gM 5 60] (kP [4,5] [] []))
 .ret))))
theorem fc_hold_ : FcT Try.prog 60 Try.f60 C_hold_ [.t 4, .t 5] := fc_mk [aN [2,3] [2,3] [],aN [2,3,6] [2,3] [],aN [2,3,6,11] [2,3] [],aN [2,3,6,11,12] [2,3] [],aN [4,5] [] [],aN [2,3,6,35] [2,3] [],aN [4,5] [] [],aN [4,5] [] []] Try.func60 (by kernel_rfl)
def C_active : AC := (.seq (.reg false [gI 3 (.box (.t 0)),gI 6 (.mv (.v (.slice none 0 0)))] (kP [1,2,3] [3] []))
 (.seq (.seq (.reg false [gI 7 (.mv (.v (.slice none 0 0)))] (kP [1,2,3,7] [3] []))
 (.own 7 42 2))
 (.seq (.reg false [gI 8 (.mv (.v (.bool false)))] (kP [1,2,3,7,8] [3] [7]))
 (.seq (.reg false [gI 9 (.mv (oI 0)),gI 10 (.mv (oI 0))] (kP [1,2,3,7,8,9,10] [3] [7]))
 (.seq (.reg false [gI 11 (.mv (.v (.bool false))),gI 12 (.mv (.v (.bool false)))] (kP [1,2,3,7,8,9,10,11,12] [3] [7]))
 (.seq (.seq (.reg false [gM 20 1,gI 21 (.len (.t 20)),gI 22 (.mv (oI 0))] (kP [1,2,3,7,8,9,10,11,12,20,21,22] [3] [7]))
 (.block 0 (.loop (.seq (.reg false [gI 23 (.bin .lss (.t 22) (.t 21))] (kP [1,2,3,7,8,9,10,11,12,20,21,22,23] [3] [7]))
 (.seq (.cond (.t 23)
 .skip
 (.exit 0))
 (.seq (.block 1 (.seq (.reg false [gM 24 22,gI 25 (.iadr 3 (.t 20) (.t 22)),gI 26 (.load true 3 (.t 25)),gI 14 (.alloc [(.int .i64 (0)),(.int .i64 (0)),(.int .i64 (0))]),gM 13 24,gN (.store 3 (.t 14) (.t 26))] (kP [1,2,3,7,8,9,10,11,12,13,14,20,21,22] [3,14] [7]))
 (.seq (.reg false [gI 15 (.mv (oI 345686400000))] (kP [1,2,3,7,8,9,10,11,12,13,14,15,20,21,22] [3,14] [7]))
 (.seq (.seq (.reg false [gM 27 13,gI 28 (.bin .add (.t 27) (oI 1)),gM 29 1,gI 30 (.len (.t 29)),gI 31 (.bin .lss (.t 28) (.t 30))] (kP [1,2,3,7,8,9,10,11,12,13,14,15,20,21,22,31] [3,14] [7]))
 (.cond (.t 31)
 (.reg false [gM 32 1,gM 33 13,gI 34 (.bin .add (.t 33) (oI 1)),gI 35 (.iadr 3 (.t 32) (.t 34)),gI 36 (.fadr 0 (.t 35)),gI 37 (.load false 1 (.t 36)),gM 15 37] (kP [1,2,3,7,8,9,10,11,12,14,15,20,21,22] [3,14] [7]))
 .skip))
 (.seq (.reg false [gI 39 (.load true 10 (.t 3)),gI 40 (.load true 3 (.t 14)),gI 41 (.call (.f 60) [(.t 39),(.t 40)]),gM 38 41,gI 42 (.extr (.t 38) 0),gI 43 (.extr (.t 38) 1),gM 16 42,gM 17 43] (kP [1,2,3,7,8,9,10,11,12,14,15,16,17,20,21,22] [3,14] [7]))
 (.seq (.seq (.reg false [gM 44 16,gM 45 44,gG 46 45 true (.mv (.t 11)),gG 47 45 true (.un .not (.t 46)),gI 48 (.pick (.t 45) (.t 47) (.v (.bool false)))] (kP [1,2,3,7,8,9,10,12,14,15,16,17,20,21,22,48] [3,14] [7]))
 (.cond (.t 48)
 (.reg false [gI 49 (.fadr 0 (.t 14)),gI 50 (.load false 1 (.t 49)),gM 9 50] (kP [1,2,3,7,8,9,10,12,14,15,16,17,20,21,22] [3,14] [7]))
 .skip))
 (.seq (.seq (.reg false [gM 51 17,gM 52 51,gG 53 52 true (.mv (.t 12)),gG 54 52 true (.un .not (.t 53)),gI 55 (.pick (.t 52) (.t 54) (.v (.bool false)))] (kP [1,2,3,7,8,9,10,14,15,16,17,20,21,22,55] [3,14] [7]))
 (.cond (.t 55)
 (.reg false [gI 56 (.fadr 0 (.t 14)),gI 57 (.load false 1 (.t 56)),gM 10 57] (kP [1,2,3,7,8,9,10,14,15,16,17,20,21,22] [3,14] [7]))
 .skip))
 (.seq (.reg false [gM 58 16,gM 59 17,gM 11 58,gM 12 59] (kP [1,2,3,7,8,9,10,11,12,14,15,16,17,20,21,22] [3,14] [7]))
 (.seq (.seq (.reg false [gI 60 (.fadr 0 (.t 14)),gI 61 (.load false 1 (.t 60)),gM 62 9,gI 63 (.fadr 5 (.t 3)),gI 64 (.load false 1 (.t 63)),gI 65 (.bin .add (.t 62) (.t 64)),gI 66 (.mnx true (.t 61) (.t 65)),gM 18 66] (kP [1,2,3,7,8,9,10,11,12,14,15,16,17,18,20,21,22] [3,14] [7]))
 (.seq (.reg false [gM 67 16,gM 68 67,gG 69 68 true (.mv (.t 8)),gG 70 68 true (.un .not (.t 69)),gI 71 (.pick (.t 68) (.t 70) (.v (.bool false))),gM 72 71,gG 73 72 true (.mv (.t 18)),gG 74 72 true (.mv (.t 15)),gG 75 72 true (.bin .lss (.t 73) (.t 74)),gI 76 (.pick (.t 72) (.t 75) (.v (.bool false))),gM 77 76,gG 78 77 true (.mv (.t 18)),gG 79 77 true (.mv (.t 2)),gG 80 77 true (.bin .lss (.t 78) (.t 79)),gI 81 (.pick (.t 77) (.t 80) (.v (.bool false)))] (kP [1,2,3,7,8,9,10,11,12,14,15,17,18,20,21,22,81] [3,14] [7]))
 (.cond (.t 81)
 (.seq (.reg false [gI 8 (.mv (.v (.bool true)))] (kP [1,2,3,7,8,9,10,11,12,14,15,17,18,20,21,22] [3,14] [7]))
 (.reg false [gM 82 7,gM 83 18,gM 84 2,gI 85 (.build [(.int .i64 (0)),(.int .i64 (0))] [(0,1,(.t 83)),(1,1,(.t 84))]),gI 86 (.bslice 2 1 [(.t 85)]),gI 87 (.append 42 2 16 (.t 82) (.t 86)),gM 7 87] (kP [1,2,3,7,8,9,10,11,12,14,15,17,20,21,22] [3,14] [7])))
 .skip)))
 (.seq (.reg false [gI 88 (.fadr 0 (.t 14)),gI 89 (.load false 1 (.t 88)),gM 90 10,gI 91 (.fadr 6 (.t 3)),gI 92 (.load false 1 (.t 91)),gI 93 (.bin .add (.t 90) (.t 92)),gI 94 (.mnx true (.t 89) (.t 93)),gM 19 94] (kP [1,2,3,7,8,9,10,11,12,15,17,19,20,21,22] [3] [7]))
 (.seq (.reg false [gM 95 17,gM 96 95,gG 97 96 true (.mv (.t 8)),gI 98 (.pick (.t 96) (.t 97) (.v (.bool false))),gM 99 98,gG 100 99 true (.mv (.t 19)),gG 101 99 true (.mv (.t 15)),gG 102 99 true (.bin .lss (.t 100) (.t 101)),gI 103 (.pick (.t 99) (.t 102) (.v (.bool false))),gM 104 103,gG 105 104 true (.mv (.t 19)),gG 106 104 true (.mv (.t 2)),gG 107 104 true (.bin .lss (.t 105) (.t 106)),gI 108 (.pick (.t 104) (.t 107) (.v (.bool false)))] (kP [1,2,3,7,8,9,10,11,12,19,20,21,22,108] [3] [7]))
 (.cond (.t 108)
 (.seq (.reg false [gI 8 (.mv (.v (.bool false)))] (kP [1,2,3,7,8,9,10,11,12,19,20,21,22] [3] [7]))
 (.reg false [gM 109 7,gM 110 7,gI 111 (.len (.t 110)),gI 112 (.bin .sub (.t 111) (oI 1)),gM 113 19,gI 114 (.iadr 2 (.t 109) (.t 112)),gI 115 (.fadr 1 (.t 114)),gN (.store 1 (.t 115) (.t 113))] (kP [1,2,3,7,8,9,10,11,12,20,21,22] [3] [7])))
 .skip))))))))))))
 (.reg false [gI 116 (.bin .add (.t 22) (oI 1)),gM 22 116] (kP [1,2,3,7,8,9,10,11,12,20,21,22] [3] [7]))))))))
 (.seq (.reg false [gM 117 7,gM 6 117] (kP [6] [] []))
 .ret)))))))
theorem fc_active : FcT Try.prog 44 Try.f44 C_active [.t 6] := fc_mk [aN [1,2,3] [3] [],⟨(kP [1,2,3,7] [3] []),[(7,42,2)],[],[],[]⟩,aN [1,2,3,7,8] [3] [7],aN [1,2,3,7,8,9,10] [3] [7],aN [1,2,3,7,8,9,10,11,12] [3] [7],aN [1,2,3,7,8,9,10,11,12,20,21,22] [3] [7],aN [1,2,3,7,8,9,10,11,12,20,21,22,23] [3] [7],aN [1,2,3,7,8,9,10,11,12,13,14,20,21,22] [3,14] [7],aN [1,2,3,7,8,9,10,11,12,13,14,15,20,21,22] [3,14] [7],aN [1,2,3,7,8,9,10,11,12,13,14,15,20,21,22,31] [3,14] [7],aN [1,2,3,7,8,9,10,11,12,14,15,20,21,22] [3,14] [7],aN [1,2,3,7,8,9,10,11,12,14,15,16,17,20,21,22] [3,14] [7],aN [1,2,3,7,8,9,10,12,14,15,16,17,20,21,22,48] [3,14] [7],aN [1,2,3,7,8,9,10,12,14,15,16,17,20,21,22] [3,14] [7],aN [1,2,3,7,8,9,10,14,15,16,17,20,21,22,55] [3,14] [7],aN [1,2,3,7,8,9,10,14,15,16,17,20,21,22] [3,14] [7],aN [1,2,3,7,8,9,10,11,12,14,15,16,17,20,21,22] [3,14] [7],aN [1,2,3,7,8,9,10,11,12,14,15,16,17,18,20,21,22] [3,14] [7],aN [1,2,3,7,8,9,10,11,12,14,15,17,18,20,21,22,81] [3,14] [7],aN [1,2,3,7,8,9,10,11,12,14,15,17,18,20,21,22] [3,14] [7],aN [1,2,3,7,8,9,10,11,12,14,15,17,20,21,22] [3,14] [7],aN [1,2,3,7,8,9,10,11,12,15,17,19,20,21,22] [3] [7],aN [1,2,3,7,8,9,10,11,12,19,20,21,22,108] [3] [7],aN [1,2,3,7,8,9,10,11,12,19,20,21,22] [3] [7],aN [1,2,3,7,8,9,10,11,12,20,21,22] [3] [7],aN [1,2,3,7,8,9,10,11,12,20,21,22] [3] [7],aN [6] [] []] Try.func44 (by kernel_rfl)
def C_activeP : AC := (.seq (.reg false [gI 3 (.box (.t 0)),gI 6 (.mv (.v (.slice none 0 0))),gI 7 (.mv (oI 0))] (kP [1,2,3] [3] []))
 (.seq (.seq (.reg false [gI 9 (.load true 10 (.t 3)),gM 10 1,gM 11 2,gI 12 (.call (.f 43) [(.t 9),(.t 10),(.t 11)]),gM 8 12] (kP [1,2,3,8] [3] []))
 (.seq (.reg false [gM 13 8,gI 14 (.bin .neq (.t 13) (oI 0))] (kP [1,2,3,8,14] [3] []))
 (.cond (.t 14)
 (.seq (.seq (.reg false [gM 15 8,gI 6 (.mv (.v (.slice none 0 0))),gM 7 15] (kP [6,7] [] []))
 (.ty 6 2))
 .ret)
 .skip)))
 (.seq (.reg false [gI 16 (.load true 10 (.t 3)),gM 17 1,gM 18 2,gI 19 (.call (.f 44) [(.t 16),(.t 17),(.t 18)]),gM 6 19,gI 7 (.mv (oI 0))] (kP [6,7] [] []))
 .ret)))
theorem fc_activeP : FcT Try.prog 23 Try.f23 C_activeP [.t 6, .t 7] := fc_mk [aN [1,2,3] [3] [],aN [1,2,3,8] [3] [],aN [1,2,3,8,14] [3] [],⟨(kP [6,7] [] []),[],[],[(6,2)],[]⟩,aN [6,7] [] []] Try.func23 (by kernel_rfl)
def C_facts : AC := (.seq (.reg false [gI 0 (.mv (.v (.bool false)))] (kP [] [] []))
 (.seq (.reg false [gI 7 (.build [(.int .i64 (0)),(.int .i64 (0)),(.int .i64 (0))] [(0,1,(oI 0)),(1,1,(oI 0))]),gI 8 (.build [(.int .i64 (0)),(.int .i64 (0)),(.int .i64 (0))] [(0,1,(oI 4)),(1,1,(oI 2))]),gI 9 (.bslice 3 2 [(.t 7),(.t 8)]),gI 10 (.call (.f 12) [(.t 9),(oI 1)]),gM 6 10,gI 11 (.extr (.t 6) 0),gI 12 (.extr (.t 6) 1),gI 13 (.extr (.t 6) 2),gI 1 (.alloc [(.int .i64 (0)),(.int .i64 (0))]),gN (.store 2 (.t 1) (.t 11)),gM 2 12,gM 3 13] (kP [1,2,3] [1] []))
 (.seq (.reg false [gI 15 (.build [(.string (ByteArray.mk #[])),(.string (ByteArray.mk #[])),(.int .i64 (0)),(.int .i64 (0)),(.int .i64 (0)),(.int .i64 (0)),(.int .i64 (0)),(.int .i64 (0)),(.bool false),(.string (ByteArray.mk #[]))] [(0,1,(.v (.string (ByteArray.mk #[97])))),(1,1,(.v (.string (ByteArray.mk #[116])))),(2,1,(oI 1)),(3,1,(oI 5)),(7,1,(oI 1))]),gI 16 (.build [(.int .i64 (0)),(.int .i64 (0)),(.int .i64 (0))] [(0,1,(oI 3)),(1,1,(oI 6))]),gI 17 (.bslice 3 1 [(.t 16)]),gI 18 (.call (.f 23) [(.t 15),(.t 17),(oI 9)]),gM 14 18,gI 19 (.extr (.t 14) 0),gI 20 (.extr (.t 14) 1),gM 4 19,gM 5 20] (kP [1,2,3,4,5] [1] []))
 (.seq (.reg false [gM 21 3,gI 22 (.bin .eql (.t 21) (oI 0)),gM 23 22,gG 24 23 true (.mv (.t 2)),gI 25 (.pick (.t 23) (.t 24) (.v (.bool false))),gM 26 25,gG 27 26 true (.load true 2 (.t 1)),gG 28 26 true (.build [(.int .i64 (0)),(.int .i64 (0))] [(0,1,(oI 1)),(1,1,(oI 2))]),gG 29 26 true (.eqs false true [.i .i64,.i .i64] (.t 27) (.t 28)),gI 30 (.pick (.t 26) (.t 29) (.v (.bool false))),gM 31 30,gG 32 31 true (.mv (.t 5)),gG 33 31 true (.bin .eql (.t 32) (oI 0)),gI 34 (.pick (.t 31) (.t 33) (.v (.bool false))),gM 35 34,gG 36 35 true (.mv (.t 4)),gG 37 35 true (.len (.t 36)),gG 38 35 true (.bin .eql (.t 37) (oI 1)),gI 39 (.pick (.t 35) (.t 38) (.v (.bool false))),gM 0 39] (kP [0] [] []))
 .ret))))
theorem fc_facts : FcT Try.prog 8 Try.f8 C_facts [.t 0] := fc_mk [aN [] [] [],aN [1,2,3] [1] [],aN [1,2,3,4,5] [1] [],aN [0] [] []] Try.func8 (by kernel_rfl)
abbrev almC (kb tb pb : ByteArray) (lt : Bool) (kd lim db on off pr : Int) : List Cel := [.g (.string kb), .g (.string tb), .g (.int .i64 kd), .g (.int .i64 lim), .g (.int .i64 db), .g (.int .i64 on), .g (.int .i64 off), .g (.int .i64 pr), .g (.bool lt), .g (.string pb)]
abbrev almK (kb tb pb : ByteArray) (lt : Bool) (kd lim db on off pr : Int) : Val := .ag [.g (.string kb), .g (.string tb), .g (.int .i64 kd), .g (.int .i64 lim), .g (.int .i64 db), .g (.int .i64 on), .g (.int .i64 off), .g (.int .i64 pr), .g (.bool lt), .g (.string pb)]
def almF (kd lim db on off pr : Int) : Int := if kd < 1 ∨ kd > 3 then 4 else if ¬((-1000000 ≤ lim ∧ lim ≤ 1000000) ∧ (0 ≤ db ∧ db ≤ 2000000) ∧ (0 ≤ on ∧ on ≤ 86400000) ∧ (0 ≤ off ∧ off ≤ 86400000) ∧ (1 ≤ pr ∧ pr ≤ 1000)) then 1 else if kd = 3 ∧ (lim ≠ 0 ∨ db ≠ 0) then 3 else 0
/-- The fault of an alarm whose key and tag are keys, or not. -/
def almG (kk : Bool) (kd lim db on off pr : Int) : Int := if kk = false then 5 else almF kd lim db on off pr
theorem alarmFault_fc (kb tb pb : ByteArray) (lt : Bool) (hkb : kb.size ≤ 9223372036854775807) (htb : tb.size ≤ 9223372036854775807) (kd lim db on off pr : Int) : FC Try.prog 59 none [almK kb tb pb lt kd lim db on off pr] (fun _ r => r = iv (almG (keyOk kb && keyOk tb) kd lim db on off pr)) := by
 refine fc_alarmFault (by simp +arith) ?_
 unfold C_alarmFault
 simp (maxSteps := 1000000) (disch := omega) only [go_sem]
 refine CALL_det (key_fc kb hkb) (.inl rfl) ?_
 cases hk1 : keyOk kb with
 | false =>
  rw [Bool.false_and]
  simp (maxSteps := 1000000) (disch := omega) only [go_sem]
  exact iv_congr (by unfold almG; rw [if_pos rfl])
 | true =>
 rw [Bool.true_and]
 simp (maxSteps := 1000000) (disch := omega) only [go_sem]
 refine CALL_det (key_fc tb htb) (.inl rfl) ?_
 cases hk2 : keyOk tb with
 | false =>
  simp (maxSteps := 1000000) (disch := omega) only [go_sem]
  exact iv_congr (by unfold almG; rw [if_pos rfl])
 | true =>
 have eg : almG true kd lim db on off pr = almF kd lim db on off pr := by unfold almG; rw [if_neg (by simp)]
 rw [eg]
 simp (maxSteps := 1000000) (disch := omega) only [go_sem]
 refine CALL_det (out_fc _ _ _) (.inl rfl) ?_
 by_cases h0 : kd < 1 ∨ kd > 3
 ·rw [decide_eq_true h0]
  simp (maxSteps := 1000000) (disch := omega) only [go_sem]
  exact iv_congr (by unfold almF; rw [if_pos h0])
 rw [decide_eq_false h0]
 simp (maxSteps := 1000000) (disch := omega) only [go_sem]
 refine CALL_det (out_fc _ _ _) (.inl rfl) ?_
 by_cases h1 : lim < -1000000 ∨ lim > 1000000
 ·rw [decide_eq_true h1]
  simp (maxSteps := 1000000) (disch := omega) only [go_sem]
  exact iv_congr (by unfold almF; rw [if_neg h0, if_pos (by omega)])
 rw [decide_eq_false h1]
 simp (maxSteps := 1000000) (disch := omega) only [go_sem]
 refine CALL_det (out_fc _ _ _) (.inl rfl) ?_
 by_cases h2 : db < 0 ∨ db > 2000000
 ·rw [decide_eq_true h2]
  simp (maxSteps := 1000000) (disch := omega) only [go_sem]
  exact iv_congr (by unfold almF; rw [if_neg h0, if_pos (by omega)])
 rw [decide_eq_false h2]
 simp (maxSteps := 1000000) (disch := omega) only [go_sem]
 refine CALL_det (out_fc _ _ _) (.inl rfl) ?_
 by_cases h3 : on < 0 ∨ on > 86400000
 ·rw [decide_eq_true h3]
  simp (maxSteps := 1000000) (disch := omega) only [go_sem]
  exact iv_congr (by unfold almF; rw [if_neg h0, if_pos (by omega)])
 rw [decide_eq_false h3]
 simp (maxSteps := 1000000) (disch := omega) only [go_sem]
 refine CALL_det (out_fc _ _ _) (.inl rfl) ?_
 by_cases h4 : off < 0 ∨ off > 86400000
 ·rw [decide_eq_true h4]
  simp (maxSteps := 1000000) (disch := omega) only [go_sem]
  exact iv_congr (by unfold almF; rw [if_neg h0, if_pos (by omega)])
 rw [decide_eq_false h4]
 simp (maxSteps := 1000000) (disch := omega) only [go_sem]
 refine CALL_det (out_fc _ _ _) (.inl rfl) ?_
 by_cases h5 : pr < 1 ∨ pr > 1000
 ·rw [decide_eq_true h5]
  simp (maxSteps := 1000000) (disch := omega) only [go_sem]
  exact iv_congr (by unfold almF; rw [if_neg h0, if_pos (by omega)])
 rw [decide_eq_false h5]
 have e : almF kd lim db on off pr = if kd = 3 ∧ (lim ≠ 0 ∨ db ≠ 0) then 3 else 0 := by unfold almF; rw [if_neg h0, if_neg (by omega)]
 rw [e]
 by_cases h6 : kd = 3
 ·by_cases h7 : lim = 0
  ·by_cases h8 : db = 0
   ·rw [if_neg (by omega)]
    simp (maxSteps := 1000000) (disch := omega) only [go_sem]
   ·rw [if_pos (by omega)]
    simp (maxSteps := 1000000) (disch := omega) only [go_sem]
  ·rw [if_pos (by omega)]
   simp (maxSteps := 1000000) (disch := omega) only [go_sem]
 ·rw [if_neg (by omega)]
  simp (maxSteps := 1000000) (disch := omega) only [go_sem]
def unF (kk : Bool) (kd lim db on off pr : Int) (l : List Smp) (un : Int) : Int := if orSp [almG kk kd lim db on off pr, serFault l] = 0 ∧ (un < 0 ∨ un > 345686400000) then 1 else orSp [almG kk kd lim db on off pr, serFault l]
theorem untilFault_fc (kb tb pb : ByteArray) (lt : Bool) (hkb : kb.size ≤ 9223372036854775807) (htb : tb.size ≤ 9223372036854775807) (kd lim db on off pr : Int) (l : List Smp) (hl : l.length ≤ 4611686018427387904) (un : Int) : FC Try.prog 43 none [almK kb tb pb lt kd lim db on off pr, smps false l, iv un] (fun _ r => r = iv (unF (keyOk kb && keyOk tb) kd lim db on off pr l un)) := by
 refine fc_untilFault (by simp +arith) ?_
 have hca := alarmFault_fc kb tb pb lt hkb htb kd lim db on off pr
 generalize (keyOk kb && keyOk tb) = kk at *
 unfold C_untilFault
 simp (maxSteps := 1000000) (disch := omega) only [go_sem]
 refine CALL_det hca (.inl rfl) ?_
 simp (maxSteps := 1000000) (disch := omega) only [go_sem]
 refine CALL_det (checkSeries_fc l hl) (.inl rfl) ?_
 simp (maxSteps := 1000000) (disch := omega) only [go_sem]
 refine CALL_det (first_fc false [almG kk kd lim db on off pr, serFault l] (by simp)) (.inl rfl) ?_
 unfold unF
 generalize orSp [almG kk kd lim db on off pr, serFault l] = e
 by_cases h1 : e = 0
 ·simp (maxSteps := 1000000) (disch := omega) only [go_sem]
  refine CALL_det (out_fc _ _ _) (.inl rfl) ?_
  by_cases h2 : un < 0 ∨ un > 345686400000
  ·rw [decide_eq_true h2, if_pos ⟨h1, h2⟩]
   simp (maxSteps := 1000000) (disch := omega) only [go_sem]
  ·rw [decide_eq_false h2, if_neg (fun h => h2 h.2)]
   simp (maxSteps := 1000000) (disch := omega) only [go_sem]
 ·rw [if_neg (fun h => h1 h.1)]
  simp (maxSteps := 1000000) (disch := omega) only [go_sem]
/-- Whether the condition of an alarm holds for a sample, and whether it holds no more. -/
def hldSp (kd lim db : Int) (s : Smp) : Bool × Bool :=
 if kd = 1 then (decide (¬s.q = 2 ∧ s.v > lim), decide (¬s.q = 2 ∧ s.v ≤ lim - db)) else if kd = 2 then (decide (¬s.q = 2 ∧ s.v < lim), decide (¬s.q = 2 ∧ s.v ≥ lim + db)) else (decide (s.q = 2), decide (¬s.q = 2))
theorem hold_fc (kb tb pb : ByteArray) (lt : Bool) (kd lim db on off pr : Int) (s : Smp) (hs : okSmp s) (h1 : -1000000 ≤ lim ∧ lim ≤ 1000000) (h2 : 0 ≤ db ∧ db ≤ 2000000) : FC Try.prog 60 none [almK kb tb pb lt kd lim db on off pr, smpV s] (fun _ r => r = .tu [bv (hldSp kd lim db s).1, bv (hldSp kd lim db s).2]) := by
 refine fc_hold_ (by simp +arith) ?_
 unfold C_hold_ hldSp
 by_cases c1 : kd = 1
 ·rw [if_pos c1]
  by_cases c2 : s.q = 2
  ·rw [decide_eq_false (fun h => h.1 c2), decide_eq_false (fun h => h.1 c2)]
   simp (maxSteps := 1000000) (disch := omega) only [go_sem]
  ·simp (maxSteps := 1000000) (disch := omega) only [go_sem]
   exact tu2_congr (bv_dec (by simp [c2])) (bv_dec (by simp [c2]))
 rw [if_neg c1]
 by_cases c3 : kd = 2
 ·rw [if_pos c3]
  by_cases c2 : s.q = 2
  ·rw [decide_eq_false (fun h => h.1 c2), decide_eq_false (fun h => h.1 c2)]
   simp (maxSteps := 1000000) (disch := omega) only [go_sem]
  ·simp (maxSteps := 1000000) (disch := omega) only [go_sem]
   exact tu2_congr (bv_dec (by simp [c2])) (bv_dec (by simp [c2]))
 rw [if_neg c3]
 simp (maxSteps := 1000000) (disch := omega) only [go_sem]
theorem gA0 (x : List Cel) : [x].getD (Int.toNat 0) [] = x := rfl
attribute [local go_sem] gA0
abbrev kA : ByteArray := ByteArray.mk #[97]
abbrev kT : ByteArray := ByteArray.mk #[116]
abbrev kP0 : ByteArray := ByteArray.mk #[]
theorem active1_fc : FC Try.prog 44 none [almK kA kT kP0 false 1 5 0 0 0 1, smps false [⟨3, 6, 0⟩], iv 9] (fun _ r => r = frsV true [(3, 9)]) := by
 refine fc_active (by simp +arith) ?_
 have hh := hold_fc kA kT kP0 false 1 5 0 0 0 1 ⟨3, 6, 0⟩ (by unfold okSmp; simp) (by omega) (by omega)
 have e : hldSp 1 5 0 ⟨3, 6, 0⟩ = (true, false) := by kernel_rfl
 rw [e] at hh
 unfold C_active
 simp (maxSteps := 1000000) (disch := omega) only [go_sem]
 refine ex_rnd 3 ?_
 simp (maxSteps := 1000000) (disch := omega) only [go_sem]
 refine CALL_det hh (.inl rfl) ?_
 simp (maxSteps := 1000000) (disch := omega) only [go_sem]
 rfl
theorem active1P_fc : FC Try.prog 23 none [almK kA kT kP0 false 1 5 0 0 0 1, smps false [⟨3, 6, 0⟩], iv 9] (fun _ r => r = .tu [frsV true [(3, 9)], iv 0]) := by
 refine fc_activeP (by simp +arith) ?_
 have hcu := untilFault_fc kA kT kP0 false (of_decide_eq_true (by kernel_rfl)) (of_decide_eq_true (by kernel_rfl)) 1 5 0 0 0 1 [⟨3, 6, 0⟩] (by simp) 9
 have e : unF (keyOk kA && keyOk kT) 1 5 0 0 0 1 [⟨3, 6, 0⟩] 9 = 0 := by kernel_rfl
 rw [e] at hcu
 unfold C_activeP
 simp (maxSteps := 1000000) (disch := omega) only [go_sem]
 refine CALL_det hcu (.inl rfl) ?_
 simp (maxSteps := 1000000) (disch := omega) only [go_sem]
 refine CALL_det active1_fc (.inl rfl) ?_
 simp (maxSteps := 1000000) (disch := omega) only [go_sem]
 rfl
theorem facts_fc : FC Try.prog 8 none [] (fun _ r => r = bv true) := by
 refine fc_facts (by simp +arith) ?_
 unfold C_facts
 simp (maxSteps := 1000000) (disch := omega) only [go_sem]
 refine CALL_det (reconstruct_fc [⟨0, 0, 0⟩, ⟨4, 2, 0⟩] (by simp) 1) (.inl rfl) ?_
 have e : recoSp [⟨0, 0, 0⟩, ⟨4, 2, 0⟩] 1 = ((1, 2), true, 0) := by kernel_rfl
 rw [e]
 simp (maxSteps := 1000000) (disch := omega) only [go_sem]
 refine CALL_det active1P_fc (.inl rfl) ?_
 simp (maxSteps := 1000000) (disch := omega) only [go_sem]
 rfl
end Go.Proofs.Ytiiblflmfadmbaa

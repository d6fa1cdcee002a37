
/-
 Frames, in plain terms: what is wrong with them, and where those of two lists overlap; their contracts; frames that streams draw.
-/
import Derived.Test.YtjamjffppcjeiaaGreatDoorFrm
import Derived.Test.YtjamjffppcjeiaaGreatDoorGdt
namespace Go.Proofs.YtjamjffppcjeiaaGreatDoor
open Go Go.Ai
set_option linter.unusedSimpArgs false
set_option linter.unusedVariables false
set_option maxHeartbeats 4000000
def C_frameList : AC := (.seq (.reg false [gI 2 (.mv (.v (.slice none 0 0)))] (kP [0] [0] []))
 (.seq (.seq (.reg false [gI 3 (.mv (.v (.slice none 0 0)))] (kP [0,3] [0] []))
 (.own 3 52 2))
 (.seq (.reg false [gM 7 0,gI 8 (.bslice 1 3 [(oI 0),(oI 3),(oI 10)]),gI 9 (.callx (.f 42) [(.t 7),(.t 8)]),gM 4 9] (kP [0,3,4] [0] [3]))
 (.seq (.seq (.reg false [gM 10 0,gI 11 (.callx (.f 43) [(.t 10),(oI 0),(oI 4)]),gI 12 (.mv (oI 0))] (kP [0,3,4,11,12] [0] [3]))
 (.block 0 (.loop (.seq (.reg false [gI 13 (.bin .lss (.t 12) (.t 11))] (kP [0,3,4,11,12,13] [0] [3]))
 (.seq (.cond (.t 13)
 .skip
 (.exit 0))
 (.seq (.block 1 (.seq (.reg false [gM 14 4,gM 15 4,gM 16 0,gI 17 (.bslice 1 4 [(oI 1),(oI 5),(oI 20),(oI 33)]),gI 18 (.callx (.f 42) [(.t 16),(.t 17)]),gI 19 (.bin .add (.t 15) (.t 18)),gI 20 (.build [(.int .i64 (0)),(.int .i64 (0))] [(0,1,(.t 14)),(1,1,(.t 19))]),gI 5 (.alloc [(.int .i64 (0)),(.int .i64 (0))]),gN (.store 2 (.t 5) (.t 20))] (kP [0,3,5,11,12] [0,5] [3]))
 (.seq (.reg false [gM 21 3,gI 22 (.load true 2 (.t 5)),gI 23 (.bslice 2 1 [(.t 22)]),gI 24 (.append 52 2 16 (.t 21) (.t 23)),gM 3 24] (kP [0,3,5,11,12] [0,5] [3]))
 (.reg true [gN (.chk (.t 5) (some 5)),gI 25 (.fadr 1 (.t 5)),gN (.chk (.t 25) (some 5)),gI 26 (.load false 1 (.t 25)),gM 27 0,gI 28 (.bslice 1 3 [(oI 0),(oI 1),(oI 10)]),gN (.chk (.t 27) (some 0)),gI 29 (.callx (.f 42) [(.t 27),(.t 28)]),gI 30 (.bin .add (.t 26) (.t 29)),gM 4 30] (kP [0,3,4,11,12] [0] [3])))))
 (.reg false [gI 31 (.bin .add (.t 12) (oI 1)),gM 12 31] (kP [0,3,4,11,12] [0] [3]))))))))
 (.seq (.seq (.reg false [gM 32 3,gI 33 (.len (.t 32)),gI 34 (.bin .gtr (.t 33) (oI 0)),gM 35 34,gG 36 35 true (.mv (.t 0)),gG 37 35 true (.callx (.f 44) [(.t 36),(oI 12)]),gI 38 (.pick (.t 35) (.t 37) (.v (.bool false)))] (kP [0,3,38] [0] [3]))
 (.cond (.t 38)
 (.seq (.reg false [gM 39 3,gM 40 0,gM 41 3,gI 42 (.len (.t 41)),gI 43 (.callx (.f 26) [(.t 40),(.t 42)]),gI 44 (.iadr 2 (.t 39) (.t 43)),gM 6 44] (kP [0,3,6] [0] [3]))
 (.reg true [gM 45 6,gM 46 6,gM 47 0,gM 48 6,gI 49 (.nilchk (.t 48)),gI 50 (.fadr 0 (.t 49)),gI 51 (.load false 1 (.t 50)),gI 52 (.bin .sub (.t 51) (oI 4)),gM 53 6,gI 54 (.nilchk (.t 53)),gI 55 (.fadr 1 (.t 54)),gI 56 (.load false 1 (.t 55)),gI 57 (.bslice 1 3 [(.t 52),(oI (-1)),(.t 56)]),gN (.chk (.t 47) (some 0)),gI 58 (.callx (.f 42) [(.t 47),(.t 57)]),gM 59 0,gM 60 6,gN (.chk (.t 60) (some 999999999)),gI 61 (.nilchk (.t 60)),gN (.chk (.t 61) (some 999999999)),gI 62 (.fadr 1 (.t 61)),gN (.chk (.t 62) (some 999999999)),gI 63 (.load false 1 (.t 62)),gI 64 (.bslice 1 3 [(.t 63),(oI 345686400000),(oI 345686400001)]),gI 65 (.callx (.f 42) [(.t 59),(.t 64)]),gI 66 (.nilchk (.t 45)),gI 67 (.fadr 0 (.t 66)),gN (.store 1 (.t 67) (.t 58)),gI 68 (.nilchk (.t 46)),gI 69 (.fadr 1 (.t 68)),gN (.store 1 (.t 69) (.t 65))] (kP [3] [0] [])))
 .skip))
 (.seq (.reg false [gM 70 3,gM 2 70] (kP [2] [0] []))
 .ret))))))
theorem fc_frameList : FcT Tryz.prog 15 Tryz.f15 C_frameList [.t 2] := fc_mk [aN [0] [0] [],⟨(kP [0,3] [0] []),[(3,52,2)],[],[],[]⟩,aN [0,3,4] [0] [3],aN [0,3,4,11,12] [0] [3],aN [0,3,4,11,12,13] [0] [3],aN [0,3,5,11,12] [0,5] [3],aN [0,3,5,11,12] [0,5] [3],⟨(kP [0,3,4,11,12] [0] [3]),[],[(0,(some 5)),(1,(some 5)),(4,(some 0))],[],[]⟩,aN [0,3,4,11,12] [0] [3],aN [0,3,38] [0] [3],aN [0,3,6] [0] [3],⟨(kP [3] [0] []),[],[(13,(some 0)),(16,(some 999999999)),(17,(some 999999999)),(18,(some 999999999))],[],[]⟩,aN [2] [0] []] Tryz.func15 (by kernel_rfl)
def C_checkFrames : AC := (.seq (.reg false [gI 2 (.mv (oI 0))] (kP [0] [] []))
 (.seq (.seq (.reg false [gM 5 0,gI 6 (.len (.t 5)),gI 7 (.bin .gtr (.t 6) (oI 2000))] (kP [0,7] [] []))
 (.cond (.t 7)
 (.seq (.reg false [gI 2 (.mv (oI 2))] (kP [2] [] []))
 .ret)
 .skip))
 (.seq (.seq (.reg false [gM 8 0,gI 9 (.len (.t 8)),gI 10 (.mv (oI 0))] (kP [0,8,9,10] [] []))
 (.block 0 (.loop (.seq (.reg false [gI 11 (.bin .lss (.t 10) (.t 9))] (kP [0,8,9,10,11] [] []))
 (.seq (.cond (.t 11)
 .skip
 (.exit 0))
 (.seq (.block 1 (.seq (.reg false [gM 12 10,gI 13 (.iadr 2 (.t 8) (.t 10)),gI 14 (.load true 2 (.t 13)),gI 4 (.alloc [(.int .i64 (0)),(.int .i64 (0))]),gM 3 12,gN (.store 2 (.t 4) (.t 14))] (kP [0,3,4,8,9,10] [4] []))
 (.block 2 (.seq (.reg false [gI 16 (.fadr 0 (.t 4)),gI 17 (.load false 1 (.t 16)),gI 18 (.bin .lss (.t 17) (oI 0)),gM 19 18,gG 20 19 false (.fadr 0 (.t 4)),gG 21 19 false (.load false 1 (.t 20)),gG 22 19 false (.fadr 1 (.t 4)),gG 23 19 false (.load false 1 (.t 22)),gG 24 19 false (.bin .geq (.t 21) (.t 23)),gI 25 (.pick (.t 19) (.v (.bool true)) (.t 24)),gM 26 25,gG 27 26 false (.fadr 1 (.t 4)),gG 28 26 false (.load false 1 (.t 27)),gG 29 26 false (.bin .gtr (.t 28) (oI 345686400000)),gI 30 (.pick (.t 26) (.v (.bool true)) (.t 29)),gM 15 30] (kP [0,3,4,8,9,10,15] [4] []))
 (.cond (.t 15)
 (.seq (.reg false [gI 2 (.mv (oI 1))] (kP [2] [] []))
 .ret)
 (.seq (.reg true [gM 32 3,gI 33 (.bin .gtr (.t 32) (oI 0)),gM 34 33,gG 35 34 true (.fadr 0 (.t 4)),gG 36 34 true (.load false 1 (.t 35)),gG 37 34 true (.mv (.t 0)),gG 38 34 true (.mv (.t 3)),gG 39 34 true (.bin .sub (.t 38) (oI 1)),gG 40 34 true (.iadr 2 (.t 37) (.t 39)),gG 41 34 true (.fadr 1 (.t 40)),gG 42 34 true (.load false 1 (.t 41)),gG 43 34 true (.bin .lss (.t 36) (.t 42)),gI 44 (.pick (.t 34) (.t 43) (.v (.bool false))),gM 31 44] (kP [0,8,9,10,31] [] []))
 (.cond (.t 31)
 (.seq (.reg false [gI 2 (.mv (oI 7))] (kP [2] [] []))
 .ret)
 .skip)))))))
 (.reg false [gI 45 (.bin .add (.t 10) (oI 1)),gM 10 45] (kP [0,8,9,10] [] []))))))))
 (.seq (.reg false [gI 2 (.mv (oI 0))] (kP [2] [] []))
 .ret))))
theorem fc_checkFrames : FcT Tryz.prog 46 Tryz.f46 C_checkFrames [.t 2] := fc_mk [aN [0] [] [],aN [0,7] [] [],aN [2] [] [],aN [0,8,9,10] [] [],aN [0,8,9,10,11] [] [],aN [0,3,4,8,9,10] [4] [],aN [0,3,4,8,9,10,15] [4] [],aN [2] [] [],aN [0,8,9,10,31] [] [],aN [2] [] [],aN [0,8,9,10] [] [],aN [2] [] []] Tryz.func46 (by kernel_rfl)
def C_frameFault : AC := (.seq (.reg false [gI 2 (.mv (oI 0))] (kP [0] [] []))
 (.seq (.seq (.reg false [gM 5 0,gI 6 (.len (.t 5)),gI 7 (.bin .gtr (.t 6) (oI 2000))] (kP [0,7] [] []))
 (.cond (.t 7)
 (.seq (.reg false [gI 2 (.mv (oI 2))] (kP [2] [] []))
 .ret)
 .skip))
 (.seq (.seq (.reg false [gM 8 0,gI 9 (.len (.t 8)),gI 10 (.mv (oI 0))] (kP [0,8,9,10] [] []))
 (.block 0 (.loop (.seq (.reg false [gI 11 (.bin .lss (.t 10) (.t 9))] (kP [0,8,9,10,11] [] []))
 (.seq (.cond (.t 11)
 .skip
 (.exit 0))
 (.seq (.block 1 (.seq (.reg false [gM 12 10,gI 13 (.iadr 2 (.t 8) (.t 10)),gI 14 (.load true 2 (.t 13)),gI 4 (.alloc [(.int .i64 (0)),(.int .i64 (0))]),gM 3 12,gN (.store 2 (.t 4) (.t 14))] (kP [0,3,4,8,9,10] [4] []))
 (.block 2 (.seq (.reg false [gI 16 (.fadr 0 (.t 4)),gI 17 (.load false 1 (.t 16)),gI 18 (.bin .lss (.t 17) (oI 0)),gM 19 18,gG 20 19 false (.fadr 0 (.t 4)),gG 21 19 false (.load false 1 (.t 20)),gG 22 19 false (.fadr 1 (.t 4)),gG 23 19 false (.load false 1 (.t 22)),gG 24 19 false (.bin .geq (.t 21) (.t 23)),gI 25 (.pick (.t 19) (.v (.bool true)) (.t 24)),gM 26 25,gG 27 26 false (.fadr 1 (.t 4)),gG 28 26 false (.load false 1 (.t 27)),gG 29 26 false (.bin .gtr (.t 28) (oI 345686400000)),gI 30 (.pick (.t 26) (.v (.bool true)) (.t 29)),gM 15 30] (kP [0,3,4,8,9,10,15] [4] []))
 (.cond (.t 15)
 (.seq (.reg false [gI 2 (.mv (oI 1))] (kP [2] [] []))
 .ret)
 (.seq (.reg true [gM 32 3,gI 33 (.bin .gtr (.t 32) (oI 0)),gM 34 33,gG 35 34 true (.fadr 0 (.t 4)),gG 36 34 true (.load false 1 (.t 35)),gG 37 34 true (.mv (.t 0)),gG 38 34 true (.mv (.t 3)),gG 39 34 true (.bin .sub (.t 38) (oI 1)),gG 40 34 true (.iadr 2 (.t 37) (.t 39)),gG 41 34 true (.fadr 1 (.t 40)),gG 42 34 true (.load false 1 (.t 41)),gG 43 34 true (.bin .lss (.t 36) (.t 42)),gI 44 (.pick (.t 34) (.t 43) (.v (.bool false))),gM 31 44] (kP [0,8,9,10,31] [] []))
 (.cond (.t 31)
 (.seq (.reg false [gI 2 (.mv (oI 7))] (kP [2] [] []))
 .ret)
 .skip)))))))
 (.reg false [gI 45 (.bin .add (.t 10) (oI 1)),gM 10 45] (kP [0,8,9,10] [] []))))))))
 (.seq (.reg false [gI 2 (.mv (oI 0))] (kP [2] [] []))
 .ret))))
theorem fc_frameFault : FcT Tryz.prog 16 Tryz.f16 C_frameFault [.t 2] := fc_mk [aN [0] [] [],aN [0,7] [] [],aN [2] [] [],aN [0,8,9,10] [] [],aN [0,8,9,10,11] [] [],aN [0,3,4,8,9,10] [4] [],aN [0,3,4,8,9,10,15] [4] [],aN [2] [] [],aN [0,8,9,10,31] [] [],aN [2] [] [],aN [0,8,9,10] [] [],aN [2] [] []] Tryz.func16 (by kernel_rfl)
def C_overlaps : AC := (.seq (.reg false [gI 4 (.mv (.v (.slice none 0 0))),gI 5 (.mv (oI 0)),gI 6 (.mv (oI 0))] (kP [0,1] [] [8]))
 (.seq (.seq (.reg false [gM 11 0,gI 12 (.call (.f 46) [(.t 11)]),gM 13 1,gI 14 (.call (.f 46) [(.t 13)]),gI 15 (.bslice 1 2 [(.t 12),(.t 14)]),gI 16 (.call (.f 45) [(.t 15)]),gM 7 16] (kP [0,1,7] [] [8]))
 (.seq (.reg false [gM 17 7,gI 18 (.bin .neq (.t 17) (oI 0))] (kP [0,1,7,18] [] [8]))
 (.cond (.t 18)
 (.seq (.seq (.reg false [gM 19 7,gI 4 (.mv (.v (.slice none 0 0))),gI 5 (.mv (oI 0)),gM 6 19] (kP [4,5,6] [] [8]))
 (.ty 4 2))
 .ret)
 .skip)))
 (.seq (.seq (.reg false [gI 8 (.mv (.v (.slice none 0 0)))] (kP [0,1,8] [] []))
 (.own 8 52 2))
 (.seq (.reg false [gI 9 (.mv (oI 0))] (kP [0,1,8,9] [] [8]))
 (.seq (.block 0 (.loop (.seq (.seq (.reg false [gM 20 0,gI 21 (.len (.t 20)),gI 22 (.bin .gtr (.t 21) (oI 0)),gM 23 22,gG 24 23 true (.mv (.t 1)),gG 25 23 true (.len (.t 24)),gG 26 23 true (.bin .gtr (.t 25) (oI 0)),gI 27 (.pick (.t 23) (.t 26) (.v (.bool false)))] (kP [0,1,8,9,27] [] [8]))
 (.cond (.t 27)
 .skip
 (.exit 0)))
 (.block 1 (.seq (.reg true [gM 28 0,gN (.chk (.t 28) none),gI 29 (.iadr 2 (.t 28) (oI 0)),gN (.chk (.t 29) none),gI 30 (.fadr 0 (.t 29)),gN (.chk (.t 30) none),gI 31 (.load false 1 (.t 30)),gM 32 1,gN (.chk (.t 32) none),gI 33 (.iadr 2 (.t 32) (oI 0)),gN (.chk (.t 33) none),gI 34 (.fadr 0 (.t 33)),gN (.chk (.t 34) none),gI 35 (.load false 1 (.t 34)),gI 36 (.mnx true (.t 31) (.t 35)),gM 37 0,gN (.chk (.t 37) none),gI 38 (.iadr 2 (.t 37) (oI 0)),gN (.chk (.t 38) none),gI 39 (.fadr 1 (.t 38)),gN (.chk (.t 39) none),gI 40 (.load false 1 (.t 39)),gM 41 1,gN (.chk (.t 41) none),gI 42 (.iadr 2 (.t 41) (oI 0)),gN (.chk (.t 42) none),gI 43 (.fadr 1 (.t 42)),gN (.chk (.t 43) none),gI 44 (.load false 1 (.t 43)),gI 45 (.mnx false (.t 40) (.t 44)),gI 46 (.build [(.int .i64 (0)),(.int .i64 (0))] [(0,1,(.t 36)),(1,1,(.t 45))]),gI 10 (.alloc [(.int .i64 (0)),(.int .i64 (0))]),gN (.store 2 (.t 10) (.t 46))] (kP [0,1,8,9,10] [10] [8]))
 (.seq (.seq (.reg false [gI 47 (.fadr 0 (.t 10)),gI 48 (.load false 1 (.t 47)),gI 49 (.fadr 1 (.t 10)),gI 50 (.load false 1 (.t 49)),gI 51 (.bin .lss (.t 48) (.t 50))] (kP [0,1,8,9,10,51] [10] [8]))
 (.cond (.t 51)
 (.seq (.reg false [gM 52 9,gI 53 (.fadr 1 (.t 10)),gI 54 (.load false 1 (.t 53)),gI 55 (.fadr 0 (.t 10)),gI 56 (.load false 1 (.t 55)),gI 57 (.bin .sub (.t 54) (.t 56)),gI 58 (.bin .add (.t 52) (.t 57)),gM 9 58] (kP [0,1,8,9,10] [10] [8]))
 (.reg false [gM 59 8,gI 60 (.load true 2 (.t 10)),gI 61 (.bslice 2 1 [(.t 60)]),gI 62 (.append 52 2 16 (.t 59) (.t 61)),gM 8 62] (kP [0,1,8,9] [] [8])))
 .skip))
 (.seq (.reg true [gM 63 0,gI 64 (.iadr 2 (.t 63) (oI 0)),gI 65 (.fadr 1 (.t 64)),gI 66 (.load false 1 (.t 65)),gM 67 1,gI 68 (.iadr 2 (.t 67) (oI 0)),gI 69 (.fadr 1 (.t 68)),gI 70 (.load false 1 (.t 69)),gI 71 (.bin .leq (.t 66) (.t 70))] (kP [0,1,8,9,71] [] [8]))
 (.cond (.t 71)
 (.reg false [gM 72 0,gI 73 (.slc 2 (.t 72) (some (oI 1)) none),gM 0 73] (kP [0,1,8,9] [] [8]))
 (.reg false [gM 74 1,gI 75 (.slc 2 (.t 74) (some (oI 1)) none),gM 1 75] (kP [0,1,8,9] [] [8]))))))))))
 (.seq (.reg false [gM 76 8,gM 77 9,gM 4 76,gM 5 77,gI 6 (.mv (oI 0))] (kP [4,5,6] [] [8]))
 .ret))))))
theorem fcm_overlaps : FmT Tryz.prog 17 Tryz.f17 C_overlaps [.t 4, .t 5, .t 6] := fcm_mk [aN [0,1] [] [8],aN [0,1,7] [] [8],aN [0,1,7,18] [] [8],⟨(kP [4,5,6] [] [8]),[],[],[(4,2)],[]⟩,⟨(kP [0,1,8] [] []),[(8,52,2)],[],[],[]⟩,aN [0,1,8,9] [] [8],aN [0,1,8,9,27] [] [8],⟨(kP [0,1,8,9,10] [10] [8]),[],[(1,none),(2,none),(3,none),(5,none),(6,none),(7,none),(10,none),(11,none),(12,none),(14,none),(15,none),(16,none)],[],[]⟩,aN [0,1,8,9,10,51] [10] [8],aN [0,1,8,9,10] [10] [8],aN [0,1,8,9] [] [8],aN [0,1,8,9,71] [] [8],aN [0,1,8,9] [] [8],aN [0,1,8,9] [] [8],aN [4,5,6] [] [8]] Tryz.func17 (by kernel_rfl)
def C_eqWin : AC := (.seq (.reg false [gI 4 (.mv (.v (.bool false)))] (kP [0,1] [] []))
 (.seq (.seq (.reg false [gM 6 0,gI 7 (.len (.t 6)),gM 8 1,gI 9 (.len (.t 8)),gI 10 (.bin .neq (.t 7) (.t 9))] (kP [0,1,10] [] []))
 (.cond (.t 10)
 (.seq (.reg false [gI 4 (.mv (.v (.bool false)))] (kP [4] [] []))
 .ret)
 .skip))
 (.seq (.seq (.reg false [gM 11 0,gI 12 (.len (.t 11)),gI 13 (.mv (oI 0))] (kP [0,1,12,13] [] []))
 (.block 0 (.loop (.seq (.reg false [gI 14 (.bin .lss (.t 13) (.t 12))] (kP [0,1,12,13,14] [] []))
 (.seq (.cond (.t 14)
 .skip
 (.exit 0))
 (.seq (.block 1 (.seq (.reg false [gM 15 13,gM 5 15] (kP [0,1,5,12,13] [] []))
 (.seq (.reg true [gM 16 0,gM 17 5,gI 18 (.iadr 2 (.t 16) (.t 17)),gI 19 (.load true 2 (.t 18)),gM 20 1,gM 21 5,gI 22 (.iadr 2 (.t 20) (.t 21)),gI 23 (.load true 2 (.t 22)),gI 24 (.eqs true true [.i .i64,.i .i64] (.t 19) (.t 23))] (kP [0,1,12,13,24] [] []))
 (.cond (.t 24)
 (.seq (.reg false [gI 4 (.mv (.v (.bool false)))] (kP [4] [] []))
 .ret)
 .skip))))
 (.reg false [gI 25 (.bin .add (.t 13) (oI 1)),gM 13 25] (kP [0,1,12,13] [] []))))))))
 (.seq (.reg false [gI 4 (.mv (.v (.bool true)))] (kP [4] [] []))
 .ret))))
theorem fc_eqWin : FcT Tryz.prog 22 Tryz.f22 C_eqWin [.t 4] := fc_mk [aN [0,1] [] [],aN [0,1,10] [] [],aN [4] [] [],aN [0,1,12,13] [] [],aN [0,1,12,13,14] [] [],aN [0,1,5,12,13] [] [],aN [0,1,12,13,24] [] [],aN [4] [] [],aN [0,1,12,13] [] [],aN [4] [] []] Tryz.func22 (by kernel_rfl)
/-- What is wrong with windows, one behind the other. -/
def fwGo : Option (Int × Int) → List (Int × Int) → Int
 | _, [] => 0
 | p, w :: t => if w.1 < 0 ∨ w.1 ≥ w.2 ∨ w.2 > 345686400000 then 1 else if (match p with | none => false | some y => decide (w.1 < y.2)) then 7 else fwGo (some w) t
def fwF (l : List (Int × Int)) : Int := if 2000 < l.length then 2 else fwGo none l
def prvW (l : List (Int × Int)) (i : Nat) : Option (Int × Int) := if i = 0 then none else some (l.getD (i - 1) default)
theorem fwGo_step (l : List (Int × Int)) (i : Nat) (h : i < l.length) : fwGo (prvW l i) (l.drop i) = if (l.getD i default).1 < 0 ∨ (l.getD i default).1 ≥ (l.getD i default).2 ∨ (l.getD i default).2 > 345686400000 then 1 else if (0 < i ∧ (l.getD i default).1 < (l.getD (i - 1) default).2) then 7 else fwGo (prvW l (i + 1)) (l.drop (i + 1)) := by
 have e : l.drop i = l.getD i default :: l.drop (i + 1) := by
  rw [List.drop_eq_getElem_cons h]; simp [List.getD_eq_getElem?_getD, h]
 rw [e, fwGo.eq_def]
 simp only []
 by_cases hi : i = 0
 ·subst hi; simp [prvW]
 ·have : 0 < i := by omega
  simp [prvW, hi, this]
/-- Windows that follow each other, from a moment on. -/
def Fch : Int → List (Int × Int) → Prop
 | _, [] => True
 | lo, w :: r => lo ≤ w.1 ∧ w.1 < w.2 ∧ w.2 ≤ 345686400000 ∧ Fch w.2 r
theorem fwGo_c (p : Option (Int × Int)) (w : Int × Int) (r : List (Int × Int)) (h : fwGo p (w :: r) = 0) : 0 ≤ w.1 ∧ w.1 < w.2 ∧ w.2 ≤ 345686400000 ∧ (∀ y, p = some y → y.2 ≤ w.1) ∧ fwGo (some w) r = 0 := by
 rw [fwGo.eq_def] at h
 simp only [] at h
 by_cases h1 : w.1 < 0 ∨ w.1 ≥ w.2 ∨ w.2 > 345686400000
 ·rw [if_pos h1] at h; omega
 ·rw [if_neg h1] at h
  cases p with
  | none =>
   simp only [Bool.false_eq_true, if_false] at h
   exact ⟨by omega, by omega, by omega, fun y hy => (by cases hy), h⟩
  | some y =>
   simp only [decide_eq_true_eq] at h
   by_cases h2 : w.1 < y.2
   ·rw [if_pos h2] at h; omega
   ·rw [if_neg h2] at h
    exact ⟨by omega, by omega, by omega, fun z hz => by injection hz with hz; subst hz; omega, h⟩
theorem fch_of : ∀ (l : List (Int × Int)) (p : Option (Int × Int)) (lo : Int), fwGo p l = 0 → (∀ y, p = some y → y.2 = lo) → (p = none → lo = 0) → Fch lo l
 | [], _, _, _, _, _ => trivial
 | w :: r, p, lo, h, h1, h2 => by
  obtain ⟨k1, k2, k3, k4, k5⟩ := fwGo_c p w r h
  refine ⟨?_, k2, k3, fch_of r (some w) w.2 k5 (fun y hy => by injection hy with hy; rw [hy]) (fun hn => by cases hn)⟩
  cases p with
  | none => have := h2 rfl; omega
  | some y => have := h1 y rfl; have := k4 y rfl; omega
theorem fwF_ok {l : List (Int × Int)} (h : fwF l = 0) : l.length ≤ 2000 ∧ Fch 0 l := by
 unfold fwF at h
 split at h
 ·omega
 ·refine ⟨by omega, ?_⟩
  exact fch_of l none 0 h (fun y hy => by cases hy) (fun _ => rfl)
theorem fwF_of {l : List (Int × Int)} : ∀ (p : Option (Int × Int)) {lo : Int}, 0 ≤ lo → (∀ y, p = some y → y.2 ≤ lo) → Fch lo l → fwGo p l = 0 := by
 induction l with
 | nil => intro p lo _ _ _; rfl
 | cons w r ih =>
  intro p lo h0 hp h
  obtain ⟨h1, h2, h3, h4⟩ := h
  rw [fwGo.eq_def]
  simp only []
  rw [if_neg (by omega), if_neg, ih (some w) (lo := w.2) (by omega) (fun y hy => by injection hy with hy; subst hy; exact Int.le_refl _) h4]
  cases p with
  | none => simp
  | some y => have := hp y rfl; simp; omega
theorem Fch.ge : ∀ {m : List (Int × Int)} {lo : Int}, Fch lo m → ∀ p ∈ m, lo ≤ p.1 ∧ p.1 < p.2 ∧ p.2 ≤ 345686400000
 | [], lo, _, p, hp => by cases hp
 | x :: r, lo, h, p, hp => by
  obtain ⟨h1, h2, h3, h4⟩ := h
  simp only [List.mem_cons] at hp
  rcases hp with rfl | hp
  ·exact ⟨h1, h2, h3⟩
  ·have := h4.ge p hp; exact ⟨by omega, this.2⟩
/-- Where two windows overlap. -/
def ovlW (x y : Int × Int) : List (Int × Int) := if max x.1 y.1 < min x.2 y.2 then [(max x.1 y.1, min x.2 y.2)] else []
def OV1 (x : Int × Int) : List (Int × Int) → List (Int × Int)
 | [] => []
 | y :: B => ovlW x y ++ OV1 x B
def OV2 (B : List (Int × Int)) : List (Int × Int) → List (Int × Int)
 | [] => []
 | x :: A => OV1 x B ++ OV2 B A
def lenS : List (Int × Int) → Int
 | [] => 0
 | w :: r => (w.2 - w.1) + lenS r
theorem lenS_app : ∀ a b : List (Int × Int), lenS (a ++ b) = lenS a + lenS b
 | [], b => by simp [lenS]
 | y :: a, b => by rw [List.cons_append, lenS, lenS, lenS_app a b]; omega
theorem ovlW_nil {p q : Int × Int} (h : p.2 ≤ q.1 ∨ q.2 ≤ p.1) : ovlW p q = [] := by
 unfold ovlW; rw [if_neg (by omega)]
theorem OV1_nil {p : Int × Int} : ∀ {B : List (Int × Int)}, (∀ q ∈ B, p.2 ≤ q.1) → OV1 p B = []
 | [], _ => rfl
 | q :: B, h => by
  rw [OV1, ovlW_nil (.inl (h q (by simp))), OV1_nil (fun x hx => h x (by simp [hx]))]; rfl
theorem OV2_nil : ∀ A : List (Int × Int), OV2 [] A = []
 | [] => rfl
 | p :: A => by rw [OV2, OV2_nil A]; rfl
theorem OV2_col {q : Int × Int} {B : List (Int × Int)} : ∀ {A : List (Int × Int)}, (∀ p ∈ A, q.2 ≤ p.1) → OV2 (q :: B) A = OV2 B A
 | [], _ => rfl
 | p :: A, h => by
  rw [OV2, OV2, OV1, ovlW_nil (.inr (h p (by simp))), OV2_col (fun x hx => h x (by simp [hx]))]; rfl
theorem OV2_step {p q : Int × Int} {A B : List (Int × Int)} {lo lo' : Int} (hA : Fch lo (p :: A)) (hB : Fch lo' (q :: B)) : OV2 (q :: B) (p :: A) = ovlW p q ++ (if p.2 ≤ q.2 then OV2 (q :: B) A else OV2 B (p :: A)) := by
 by_cases h : p.2 ≤ q.2
 ·rw [if_pos h, OV2, OV1, OV1_nil (fun x hx => by have := (hB.2.2.2.ge x hx).1; omega), List.append_nil]
 ·rw [if_neg h, OV2, OV1, OV2, OV2_col (fun x hx => by have := (hA.2.2.2.ge x hx).1; omega), List.append_assoc]
theorem ovlW_len (p q : Int × Int) : (ovlW p q).length ≤ 1 := by
 unfold ovlW; split <;> simp
def cwSt (l : List (Int × Int)) (i : Int) : AS := ⟨tabV [(0, frsV false l), (8, frsV false l), (9, iv l.length), (10, iv i)], tabO [], tabO []⟩
theorem checkFrames_fc (l : List (Int × Int)) (hl : l.length ≤ 4611686018427387904) : FC Tryz.prog 46 none [frsV false l] (fun _ r => r = iv (fwF l)) := by
 refine fc_checkFrames (by simp +arith) ?_
 unfold C_checkFrames fwF
 by_cases h : 2000 < l.length
 ·rw [if_pos h]
  simp (maxSteps := 1000000) (disch := omega) only [go_sem]
 rw [if_neg h]
 simp (maxSteps := 1000000) (disch := omega) only [go_sem]
 refine ex_loop1 (cwSt l) (fun i => 0 ≤ i ∧ i ≤ l.length ∧ fwGo (prvW l i.toNat) (l.drop i.toNat) = fwGo none l) (fun i => (l.length - i).toNat) 0 ⟨by omega, by omega, rfl⟩ rfl ?_
 rintro i ⟨g1, g2, g3⟩
 unfold cwSt
 by_cases hi : i < l.length
 ·have g4 := fwGo_step l i.toNat (by omega)
  have e1 : (i - 1).toNat = i.toNat - 1 := by omega
  have e2 : (i + 1).toNat = i.toNat + 1 := by omega
  rw [g3] at g4
  by_cases c1 : (l.getD i.toNat default).1 < 0 ∨ (l.getD i.toNat default).1 ≥ (l.getD i.toNat default).2 ∨ (l.getD i.toNat default).2 > 345686400000
  ·rw [if_pos c1] at g4
   rw [g4]
   by_cases d1 : (l.getD i.toNat default).1 < 0
   ·simp (maxSteps := 1000000) (disch := omega) only [go_sem]
   by_cases d2 : (l.getD i.toNat default).1 ≥ (l.getD i.toNat default).2
   ·simp (maxSteps := 1000000) (disch := omega) only [go_sem]
   have d3 : (l.getD i.toNat default).2 > 345686400000 := by omega
   simp (maxSteps := 1000000) (disch := omega) only [go_sem]
  ·rw [if_neg c1] at g4
   have d1 : ¬(l.getD i.toNat default).1 < 0 := by omega
   have d2 : ¬(l.getD i.toNat default).1 ≥ (l.getD i.toNat default).2 := by omega
   have d3 : ¬(l.getD i.toNat default).2 > 345686400000 := by omega
   by_cases c2 : 0 < i
   ·by_cases c3 : (l.getD i.toNat default).1 < (l.getD (i - 1).toNat default).2
    ·rw [if_pos ⟨by omega, by rw [← e1]; exact c3⟩] at g4
     rw [g4]
     simp (maxSteps := 1000000) (disch := omega) only [go_sem]
    ·rw [if_neg (fun h => c3 (by rw [e1]; exact h.2)), ← e2] at g4
     simp (maxSteps := 1000000) (disch := omega) only [go_sem]
     exact ⟨i + 1, rfl, ⟨by omega, by omega, g4.symm⟩, by omega⟩
   ·rw [if_neg (fun h => c2 (by omega)), ← e2] at g4
    simp (maxSteps := 1000000) (disch := omega) only [go_sem]
    exact ⟨i + 1, rfl, ⟨by omega, by omega, g4.symm⟩, by omega⟩
 ·rw [List.drop_eq_nil_of_le (by omega)] at g3
  simp (maxSteps := 1000000) (disch := omega) only [go_sem]
  rw [← g3]; rfl
theorem frameFault_fc (l : List (Int × Int)) (hl : l.length ≤ 4611686018427387904) : FC Tryz.prog 16 none [frsV false l] (fun _ r => r = iv (fwF l)) := by
 refine fc_frameFault (by simp +arith) ?_
 unfold C_frameFault fwF
 by_cases h : 2000 < l.length
 ·rw [if_pos h]
  simp (maxSteps := 1000000) (disch := omega) only [go_sem]
 rw [if_neg h]
 simp (maxSteps := 1000000) (disch := omega) only [go_sem]
 refine ex_loop1 (cwSt l) (fun i => 0 ≤ i ∧ i ≤ l.length ∧ fwGo (prvW l i.toNat) (l.drop i.toNat) = fwGo none l) (fun i => (l.length - i).toNat) 0 ⟨by omega, by omega, rfl⟩ rfl ?_
 rintro i ⟨g1, g2, g3⟩
 unfold cwSt
 by_cases hi : i < l.length
 ·have g4 := fwGo_step l i.toNat (by omega)
  have e1 : (i - 1).toNat = i.toNat - 1 := by omega
  have e2 : (i + 1).toNat = i.toNat + 1 := by omega
  rw [g3] at g4
  by_cases c1 : (l.getD i.toNat default).1 < 0 ∨ (l.getD i.toNat default).1 ≥ (l.getD i.toNat default).2 ∨ (l.getD i.toNat default).2 > 345686400000
  ·rw [if_pos c1] at g4
   rw [g4]
   by_cases d1 : (l.getD i.toNat default).1 < 0
   ·simp (maxSteps := 1000000) (disch := omega) only [go_sem]
   by_cases d2 : (l.getD i.toNat default).1 ≥ (l.getD i.toNat default).2
   ·simp (maxSteps := 1000000) (disch := omega) only [go_sem]
   have d3 : (l.getD i.toNat default).2 > 345686400000 := by omega
   simp (maxSteps := 1000000) (disch := omega) only [go_sem]
  ·rw [if_neg c1] at g4
   have d1 : ¬(l.getD i.toNat default).1 < 0 := by omega
   have d2 : ¬(l.getD i.toNat default).1 ≥ (l.getD i.toNat default).2 := by omega
   have d3 : ¬(l.getD i.toNat default).2 > 345686400000 := by omega
   by_cases c2 : 0 < i
   ·by_cases c3 : (l.getD i.toNat default).1 < (l.getD (i - 1).toNat default).2
    ·rw [if_pos ⟨by omega, by rw [← e1]; exact c3⟩] at g4
     rw [g4]
     simp (maxSteps := 1000000) (disch := omega) only [go_sem]
    ·rw [if_neg (fun h => c3 (by rw [e1]; exact h.2)), ← e2] at g4
     simp (maxSteps := 1000000) (disch := omega) only [go_sem]
     exact ⟨i + 1, rfl, ⟨by omega, by omega, g4.symm⟩, by omega⟩
   ·rw [if_neg (fun h => c2 (by omega)), ← e2] at g4
    simp (maxSteps := 1000000) (disch := omega) only [go_sem]
    exact ⟨i + 1, rfl, ⟨by omega, by omega, g4.symm⟩, by omega⟩
 ·rw [List.drop_eq_nil_of_le (by omega)] at g3
  simp (maxSteps := 1000000) (disch := omega) only [go_sem]
  rw [← g3]; rfl
def ovSt (n : Int) (out A B : List (Int × Int)) : AS := ⟨tabV [(0, frsV false A), (1, frsV false B), (8, .one (.ow 8 0)), (9, iv n)], tabO [], tabO [(8, winRow out)]⟩
set_option maxHeartbeats 12000000 in
theorem overlaps_fcm (a b : List (Int × Int)) (ha : a.length ≤ 2000) (hb : b.length ≤ 2000) (hF : fwF a = 0) (hG : fwF b = 0) : FCM Tryz.prog 17 ⟨[], []⟩ [frsV false a, frsV false b] (fun H r => H = ⟨[], [(8, winRow (OV2 b a))]⟩ ∧ r = .tu [.one (.ow 8 0), iv (lenS (OV2 b a)), iv 0]) := by
 refine fcm_overlaps (K := ⟨[], [], [8]⟩) (by simp +arith) (by simp) (by simp) ?_
 unfold C_overlaps
 simp (maxSteps := 1000000) (disch := omega) only [go_sem]
 refine CALL_det (checkFrames_fc a (by omega)) (.inl rfl) ?_
 simp (maxSteps := 1000000) (disch := omega) only [go_sem]
 refine CALL_det (checkFrames_fc b (by omega)) (.inl rfl) ?_
 simp (maxSteps := 1000000) (disch := omega) only [go_sem]
 refine CALL_det (first_fc false [fwF a, fwF b] (by simp)) (.inl rfl) ?_
 obtain ⟨hla, hA⟩ := fwF_ok hF
 obtain ⟨hlb, hB⟩ := fwF_ok hG
 rw [hF, hG, show orSp [0, 0] = 0 from rfl]
 simp (maxSteps := 1000000) (disch := omega) only [go_sem]
 refine ex_loop4 ovSt (fun n out A B => (∃ lo, 0 ≤ lo ∧ Fch lo A) ∧ (∃ lo, 0 ≤ lo ∧ Fch lo B) ∧ A.length ≤ a.length ∧ B.length ≤ b.length ∧ out.length ≤ (a.length + b.length) - (A.length + B.length) ∧ 0 ≤ n ∧ n ≤ ((a.length + b.length : Int) - (A.length + B.length : Int)) * 345686400000 ∧ out ++ OV2 B A = OV2 b a ∧ n + lenS (OV2 B A) = lenS (OV2 b a)) (fun _ _ A B => A.length + B.length) 0 [] a b ⟨⟨0, by omega, hA⟩, ⟨0, by omega, hB⟩, by omega, by omega, by simp, by omega, by omega, rfl, by omega⟩ rfl ?_
 rintro n out A B ⟨⟨lo, hlo, cA⟩, ⟨lo', hlo', cB⟩, l1, l2, l3, n1, n2, s1, s2⟩
 unfold ovSt
 cases A with
 | nil =>
  simp only [OV2, lenS, List.append_nil, Int.add_zero] at s1 s2
  rw [← s2, ← s1]
  simp (maxSteps := 1000000) (disch := omega) only [go_sem]
 | cons p A =>
  cases B with
  | nil =>
   simp only [OV2_nil, lenS, List.append_nil, Int.add_zero] at s1 s2
   rw [← s2, ← s1]
   have e0 : (p :: A).length = A.length + 1 := rfl
   generalize p :: A = m at *
   simp (maxSteps := 1000000) (disch := omega) only [go_sem]
  | cons q B =>
   rw [OV2_step cA cB] at s1 s2
   obtain ⟨a1, a2, a3, cA'⟩ := cA
   obtain ⟨b1, b2, b3, cB'⟩ := cB
   have cA0 : Fch p.1 (p :: A) := ⟨by omega, a2, a3, cA'⟩
   have cB0 : Fch q.1 (q :: B) := ⟨by omega, b2, b3, cB'⟩
   have eA : (p :: A).length = A.length + 1 := rfl
   have eB : (q :: B).length = B.length + 1 := rfl
   have gA : (p :: A).getD (Int.toNat 0) default = p := rfl
   have gB : (q :: B).getD (Int.toNat 0) default = q := rfl
   have dA : ((p :: A).map frC).drop (Int.toNat 1) = A.map frC := rfl
   have dB : ((q :: B).map frC).drop (Int.toNat 1) = B.map frC := rfl
   unfold ovlW at s1 s2
   generalize hmA : p :: A = m at *
   generalize hmB : q :: B = k at *
   subst gA
   subst gB
   by_cases c1 : max (m.getD (Int.toNat 0) default).1 (k.getD (Int.toNat 0) default).1 < min (m.getD (Int.toNat 0) default).2 (k.getD (Int.toNat 0) default).2
   ·rw [if_pos c1] at s1 s2
    rw [lenS_app, lenS, lenS] at s2
    simp only at s2
    rw [← List.append_assoc] at s1
    by_cases c3 : (m.getD (Int.toNat 0) default).2 ≤ (k.getD (Int.toNat 0) default).2
    ·rw [if_pos c3] at s1 s2
     simp (maxSteps := 1000000) (disch := omega) only [go_sem]
     simp only [dA]
     exact ⟨n + (min (m.getD (Int.toNat 0) default).2 (k.getD (Int.toNat 0) default).2 - max (m.getD (Int.toNat 0) default).1 (k.getD (Int.toNat 0) default).1), out ++ [_], A, k, by simp only [ovSt, winRow, List.map_append, List.map_cons, List.map_nil, frC_eq], ⟨⟨_, by omega, cA'⟩, ⟨_, by omega, cB0⟩, by omega, by omega, by simp; omega, by omega, by omega, s1, by omega⟩, by omega⟩
    ·rw [if_neg c3] at s1 s2
     simp (maxSteps := 1000000) (disch := omega) only [go_sem]
     simp only [dB]
     exact ⟨n + (min (m.getD (Int.toNat 0) default).2 (k.getD (Int.toNat 0) default).2 - max (m.getD (Int.toNat 0) default).1 (k.getD (Int.toNat 0) default).1), out ++ [_], m, B, by simp only [ovSt, winRow, List.map_append, List.map_cons, List.map_nil, frC_eq], ⟨⟨_, by omega, cA0⟩, ⟨_, by omega, cB'⟩, by omega, by omega, by simp; omega, by omega, by omega, s1, by omega⟩, by omega⟩
   ·rw [if_neg c1, List.nil_append] at s1 s2
    by_cases c3 : (m.getD (Int.toNat 0) default).2 ≤ (k.getD (Int.toNat 0) default).2
    ·rw [if_pos c3] at s1 s2
     simp (maxSteps := 1000000) (disch := omega) only [go_sem]
     simp only [dA]
     exact ⟨_, _, A, k, rfl, ⟨⟨_, by omega, cA'⟩, ⟨_, by omega, cB0⟩, by omega, by omega, by omega, by omega, by omega, s1, by omega⟩, by omega⟩
    ·rw [if_neg c3] at s1 s2
     simp (maxSteps := 1000000) (disch := omega) only [go_sem]
     simp only [dB]
     exact ⟨_, _, m, B, rfl, ⟨⟨_, by omega, cA0⟩, ⟨_, by omega, cB'⟩, by omega, by omega, by omega, by omega, by omega, s1, by omega⟩, by omega⟩
theorem getE_set_mapW {α β : Type} (f : α → β) (l : List α) (i : Nat) (x : β) (h : i < l.length) : ((l.map f).set i x)[i]? = some x := by
 simp [h]
theorem set_map_setW {α β : Type} (f : α → β) (l : List α) (i : Nat) (x y : β) : ((l.map f).set i x).set i y = (l.map f).set i y := by simp
attribute [go_sem] getE_set_mapW set_map_setW
def eqWSt (l : List (Int × Int)) (i : Int) : AS := ⟨tabV [(0, frsV false l), (1, frsV false l), (12, iv l.length), (13, iv i)], tabO [], tabO []⟩
theorem eqWin_fc (l : List (Int × Int)) (hl : l.length ≤ 1000000) : FC Tryz.prog 22 none [frsV false l, frsV false l] (fun _ r => r = bv true) := by
 refine fc_eqWin (by simp +arith) ?_
 unfold C_eqWin
 simp (maxSteps := 1000000) (disch := omega) only [go_sem]
 refine ex_loop1 (eqWSt l) (fun i => 0 ≤ i ∧ i ≤ l.length) (fun i => (l.length - i).toNat) 0 ⟨by omega, by omega⟩ rfl ?_
 rintro i ⟨g1, g2⟩
 unfold eqWSt
 by_cases hi : i < l.length
 ·simp (maxSteps := 1000000) (disch := omega) only [go_sem]
  exact ⟨_, rfl, ⟨by omega, by omega⟩, by omega⟩
 ·simp (maxSteps := 1000000) (disch := omega) only [go_sem]
structure FlX where
 i : Int
 a : Int
 q : Int
 l : List (Int × Int)
def flSt (L : List Int) (n : Int) (x : FlX) : AS :=
 ⟨tabV [(0, .one (.bx 0 0)), (3, .one (.ow 3 0)), (4, iv x.a), (11, iv n), (12, iv x.i)], tabO [(0, strm L x.q)], tabO [(3, winRow x.l)]⟩
theorem frameList_det : GenD Tryz.prog 15 [] 20 (fun r => ∃ l : List (Int × Int), l.length ≤ 4 ∧ r = frsV true l) := by
 refine genD_of (fun L p R' h => fc_frameList (xt := some (strm L p)) (args := []) (R := R') (by simp +arith) h) ?_
 intro L p hL hl h0 hp
 unfold C_frameList strm
 simp (maxSteps := 1000000) (disch := omega) only [go_sem]
 obtain ⟨⟨pa, ra⟩, ⟨haa, hba, za, ka, rfl⟩, hfa⟩ := (pick_det false [0, 3, 10] (by simp) (by simp)) L p hL hl (by omega) (by omega)
 simp only [List.mem_cons, List.not_mem_nil, or_false] at haa hba hfa ka
 refine exX hfa rfl rfl ?_
 unfold strm
 simp (maxSteps := 1000000) (disch := (first | omega | assumption)) only [go_sem]
 obtain ⟨⟨pb, rb⟩, ⟨hab, hbb, zb, kb, nb, rfl⟩, hfb⟩ := (range_det 0 4 (by omega) (by omega) (by omega)) L pa hL hl (by omega) (by omega)
 simp only at hab hbb hfb
 refine exX hfb rfl rfl ?_
 unfold strm
 simp (maxSteps := 1000000) (disch := (first | omega | assumption)) only [go_sem]
 refine loopD (flSt L zb) (fun x => 0 ≤ x.i ∧ x.i ≤ zb ∧ (x.l.length : Int) = x.i ∧ p ≤ x.q ∧ x.q ≤ p + 2 + 2 * x.i ∧ 0 ≤ x.a ∧ x.a ≤ 100 * x.i + 100 ∧ ∀ w ∈ x.l, 0 ≤ w.1 ∧ w.1 ≤ 2000 ∧ 0 ≤ w.2 ∧ w.2 ≤ 2000) (fun x => (zb - x.i).toNat) ⟨0, za, pb, []⟩ ⟨by simp, by simp only; omega, by simp, by simp only; omega, by simp only; omega, by simp only; omega, by simp only; omega, by simp⟩ rfl ?_
 rintro G ⟨i, a, q, out⟩ ⟨g1, g2, g3, g4, g5, g6, g7, g8⟩ IH
 simp only at g1 g2 g3 g4 g5 g6 g7 g8
 unfold flSt strm
 by_cases hi : i < zb
 ·simp (maxSteps := 1000000) (disch := omega) only [go_sem]
  obtain ⟨⟨pc, rc⟩, ⟨hac, hbc, zc, kc, rfl⟩, hfc⟩ := (pick_det false [1, 5, 20, 33] (by simp) (by simp)) L q hL hl (by omega) (by omega)
  simp only [List.mem_cons, List.not_mem_nil, or_false] at hac hbc hfc kc
  refine exX hfc rfl rfl ?_
  unfold strm
  simp (maxSteps := 1000000) (disch := (first | omega | assumption)) only [go_sem]
  obtain ⟨⟨pd, rd⟩, ⟨had, hbd, zd, kd, rfl⟩, hfd⟩ := (pick_det false [0, 1, 10] (by simp) (by simp)) L pc hL hl (by omega) (by omega)
  simp only [List.mem_cons, List.not_mem_nil, or_false] at had hbd hfd kd
  refine exX hfd rfl rfl ?_
  unfold strm
  simp (maxSteps := 1000000) (disch := (first | omega | assumption)) only [go_sem]
  obtain ⟨yy, hB, hG⟩ := IH ⟨i + 1, a + zc + zd, pd, out ++ [(a, a + zc)]⟩ ⟨by simp only; omega, by simp only; omega, by simp only [List.length_append, List.length_singleton]; omega, by simp only; omega, by simp only; omega, by simp only; omega, by simp only; omega, fun w hw => by
   rcases List.mem_append.1 hw with hw | hw
   ·exact g8 w hw
   ·simp only [List.mem_singleton] at hw; subst hw; simp only; omega⟩ (by simp only; omega)
  exact ⟨yy, hB, _, by simp only [flSt, strm, winRow, List.map_append, List.map_cons, List.map_nil, frC_eq], by simp only; omega, hG⟩
 ·clear IH
  have g9 : q ≤ p + 10 := by omega
  by_cases hn : 0 < out.length
  ·simp (maxSteps := 1000000) (disch := (first | omega | assumption)) only [go_sem]
   obtain ⟨⟨pe, re⟩, ⟨hae, hbe, be, rfl⟩, hfe⟩ := (flip_det 12 (by omega) (by omega)) L q hL hl (by omega) (by omega)
   simp only at hae hbe hfe
   cases be with
   | false =>
    refine exX hfe rfl rfl ?_
    unfold strm
    simp (maxSteps := 1000000) (disch := (first | omega | assumption)) only [go_sem]
    exact ⟨(pe, _), ⟨by simp only; omega, by simp only; omega, out, by omega, rfl⟩, rfl, rfl⟩
   | true =>
    refine exX hfe rfl rfl ?_
    unfold strm
    simp (maxSteps := 1000000) (disch := (first | omega | assumption)) only [go_sem]
    obtain ⟨⟨pf, rf⟩, ⟨haf, hbf, zf, kf, nf, rfl⟩, hff⟩ := (next_det out.length (by omega) (by omega)) L pe hL hl (by omega) (by omega)
    simp only at haf hbf hff
    refine exX hff rfl rfl ?_
    unfold strm
    simp (maxSteps := 1000000) (disch := (first | omega | assumption)) only [go_sem]
    have gw := g8 _ (getD_mem out zf.toNat (by omega))
    have eo := getE_map_in frC out zf.toNat (by omega)
    simp (maxSteps := 1000000) (disch := (first | omega | assumption)) only [go_sem]
    obtain ⟨⟨pg, rg⟩, ⟨hag, hbg, zg, kg, rfl⟩, hfg⟩ := (pick_det false [(out.getD zf.toNat default).1 - 4, -1, (out.getD zf.toNat default).2] (by simp) (by simp)) L pf hL hl (by omega) (by omega)
    simp only at hag hbg hfg
    refine exX hfg rfl rfl ?_
    unfold strm
    simp (maxSteps := 1000000) (disch := (first | omega | assumption)) only [go_sem]
    obtain ⟨⟨ph, rh⟩, ⟨hah, hbh, zh, kh, rfl⟩, hfh⟩ := (pick_det false [(out.getD zf.toNat default).2, 345686400000, 345686400001] (by simp) (by simp)) L pg hL hl (by omega) (by omega)
    simp only at hah hbh hfh
    refine exX hfh rfl rfl ?_
    unfold strm
    simp (maxSteps := 1000000) (disch := (first | omega | assumption)) only [go_sem]
    exact ⟨(ph, _), ⟨by simp only; omega, by simp only; omega, out.set zf.toNat (zg, zh), by simp; omega, by simp [frC_eq, List.map_set, frE_set, frE_fr, freshC]⟩, rfl, rfl⟩
  ·simp (maxSteps := 1000000) (disch := (first | omega | assumption)) only [go_sem]
   exact ⟨(q, _), ⟨by simp only; omega, by simp only; omega, out, by omega, rfl⟩, rfl, rfl⟩
end Go.Proofs.YtjamjffppcjeiaaGreatDoor

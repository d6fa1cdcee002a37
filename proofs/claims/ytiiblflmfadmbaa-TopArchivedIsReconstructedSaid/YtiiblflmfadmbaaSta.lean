
/-
 The state of a compression: what one sample does to it.
-/
import Derived.Test.YtiiblflmfadmbaaCrs
namespace Go.Proofs.Ytiiblflmfadmbaa
open Go Go.Ai
set_option linter.unusedSimpArgs false
set_option linter.unusedVariables false
set_option maxHeartbeats 4000000
def C_less : AC := (.seq (.reg false [gI 2 (.box (.t 0)),gI 3 (.box (.t 1)),gI 4 (.mv (.v (.bool false)))] (kP [2,3] [2,3] []))
 (.seq (.reg false [gI 5 (.fadr 0 (.t 2)),gI 6 (.load false 1 (.t 5)),gI 7 (.fadr 1 (.t 3)),gI 8 (.load false 1 (.t 7)),gI 9 (.bin .mul (.t 6) (.t 8)),gI 10 (.fadr 0 (.t 3)),gI 11 (.load false 1 (.t 10)),gI 12 (.fadr 1 (.t 2)),gI 13 (.load false 1 (.t 12)),gI 14 (.bin .mul (.t 11) (.t 13)),gI 15 (.bin .lss (.t 9) (.t 14)),gM 4 15] (kP [4] [] []))
 .ret))
theorem fc_less : FcT Try.prog 58 Try.f58 C_less [.t 4] := fc_mk [aN [2,3] [2,3] [],aN [4] [] []] Try.func58 (by kernel_rfl)
def C_archive : AC := (.seq (.reg false [gI 3 (.box (.t 1))] (kP [0,3] [0,3] []))
 (.reg true [gM 4 0,gM 5 0,gM 6 0,gI 7 (.load true 3 (.t 3)),gN (.chk (.t 3) (some 3)),gI 8 (.load true 3 (.t 3)),gI 9 (.build [(.bool false),(.int .i64 (0)),(.int .i64 (0)),(.int .i64 (0)),(.int .i64 (0))] []),gI 10 (.nilchk (.t 4)),gI 11 (.fadr 3 (.t 10)),gN (.chk (.t 11) (some 0)),gN (.store 3 (.t 11) (.t 7)),gI 12 (.nilchk (.t 5)),gI 13 (.fadr 6 (.t 12)),gN (.store 3 (.t 13) (.t 8)),gI 14 (.nilchk (.t 6)),gI 15 (.fadr 9 (.t 14)),gN (.store 5 (.t 15) (.t 9))] (kP [] [0] [])))
theorem fc_archive : FcT Try.prog 39 Try.f39 C_archive [] := fc_mk [aN [0,3] [0,3] [],⟨(kP [] [0] []),[],[(4,(some 3)),(8,(some 0))],[],[]⟩] Try.func39 (by kernel_rfl)
def C_has : AC := (.seq (.reg false [gI 4 (.box (.t 1)),gI 5 (.box (.t 2)),gI 6 (.mv (.v (.bool false)))] (kP [0,4,5] [0,4,5] []))
 (.seq (.reg false [gI 8 (.fadr 1 (.t 5)),gI 9 (.load false 1 (.t 8)),gI 10 (.fadr 1 (.t 4)),gI 11 (.load false 1 (.t 10)),gI 12 (.bin .sub (.t 9) (.t 11)),gI 13 (.fadr 0 (.t 5)),gI 14 (.load false 1 (.t 13)),gI 15 (.fadr 0 (.t 4)),gI 16 (.load false 1 (.t 15)),gI 17 (.bin .sub (.t 14) (.t 16)),gI 18 (.build [(.int .i64 (0)),(.int .i64 (0))] [(0,1,(.t 12)),(1,1,(.t 17))]),gI 7 (.alloc [(.int .i64 (0)),(.int .i64 (0))]),gN (.store 2 (.t 7) (.t 18))] (kP [0,7] [0,7] []))
 (.seq (.reg true [gM 19 0,gI 20 (.nilchk (.t 19)),gI 21 (.fadr 0 (.t 20)),gI 22 (.load false 1 (.t 21)),gI 23 (.un .not (.t 22)),gM 24 23,gG 25 24 false (.load true 2 (.t 7)),gG 26 24 false (.mv (.t 0)),gG 27 24 false (.nilchk (.t 26)),gG 28 24 false (.fadr 1 (.t 27)),gG 29 24 false (.load true 2 (.t 28)),gG 30 24 false (.call (.f 58) [(.t 25),(.t 29)]),gG 31 24 false (.un .not (.t 30)),gG 32 24 false (.mv (.t 31)),gG 33 32 true (.mv (.t 0)),gG 34 32 true (.nilchk (.t 33)),gG 35 32 true (.fadr 3 (.t 34)),gG 36 32 true (.load true 2 (.t 35)),gG 37 32 true (.load true 2 (.t 7)),gG 38 32 true (.call (.f 58) [(.t 36),(.t 37)]),gG 39 32 true (.un .not (.t 38)),gG 40 24 false (.pick (.t 32) (.t 39) (.v (.bool false))),gI 41 (.pick (.t 24) (.v (.bool true)) (.t 40)),gM 6 41] (kP [6] [0] []))
 .ret)))
theorem fcm_has : FmT Try.prog 41 Try.f41 C_has [.t 6] := fcm_mk [aN [0,4,5] [0,4,5] [],aN [0,7] [0,7] [],aN [6] [0] []] Try.func41 (by kernel_rfl)
def C_narrow : AC := (.seq (.reg false [gI 5 (.box (.t 1)),gI 6 (.box (.t 2))] (kP [0,3,5,6] [0,5,6] []))
 (.seq (.reg true [gI 12 (.fadr 0 (.t 6)),gI 13 (.load false 1 (.t 12)),gI 14 (.fadr 0 (.t 5)),gI 15 (.load false 1 (.t 14)),gI 16 (.bin .sub (.t 13) (.t 15)),gI 17 (.fadr 1 (.t 6)),gI 18 (.load false 1 (.t 17)),gI 19 (.fadr 1 (.t 5)),gI 20 (.load false 1 (.t 19)),gI 21 (.bin .sub (.t 18) (.t 20)),gM 8 16,gM 9 21] (kP [0,3,8,9] [0] []))
 (.seq (.reg false [gM 22 9,gM 23 3,gI 24 (.bin .sub (.t 22) (.t 23)),gM 25 8,gI 26 (.build [(.int .i64 (0)),(.int .i64 (0))] [(0,1,(.t 24)),(1,1,(.t 25))]),gM 27 9,gM 28 3,gI 29 (.bin .add (.t 27) (.t 28)),gM 30 8,gI 31 (.build [(.int .i64 (0)),(.int .i64 (0))] [(0,1,(.t 29)),(1,1,(.t 30))]),gI 10 (.alloc [(.int .i64 (0)),(.int .i64 (0))]),gI 11 (.alloc [(.int .i64 (0)),(.int .i64 (0))]),gN (.store 2 (.t 10) (.t 26)),gN (.store 2 (.t 11) (.t 31))] (kP [0,10,11] [0,10,11] []))
 (.seq (.seq (.reg true [gM 32 0,gI 33 (.nilchk (.t 32)),gI 34 (.fadr 0 (.t 33)),gI 35 (.load false 1 (.t 34)),gI 36 (.un .not (.t 35)),gM 37 36,gG 38 37 false (.mv (.t 0)),gG 39 37 false (.nilchk (.t 38)),gG 40 37 false (.fadr 1 (.t 39)),gG 41 37 false (.load true 2 (.t 40)),gG 42 37 false (.load true 2 (.t 10)),gG 43 37 false (.call (.f 58) [(.t 41),(.t 42)]),gI 44 (.pick (.t 37) (.v (.bool true)) (.t 43))] (kP [0,10,11,44] [0,10,11] []))
 (.cond (.t 44)
 (.reg false [gM 45 0,gI 46 (.load true 2 (.t 10)),gI 47 (.nilchk (.t 45)),gI 48 (.fadr 1 (.t 47)),gN (.store 2 (.t 48) (.t 46))] (kP [0,11] [0,11] []))
 .skip))
 (.seq (.seq (.reg true [gM 49 0,gI 50 (.nilchk (.t 49)),gI 51 (.fadr 0 (.t 50)),gI 52 (.load false 1 (.t 51)),gI 53 (.un .not (.t 52)),gM 54 53,gG 55 54 false (.load true 2 (.t 11)),gG 56 54 false (.mv (.t 0)),gG 57 54 false (.nilchk (.t 56)),gG 58 54 false (.fadr 3 (.t 57)),gG 59 54 false (.load true 2 (.t 58)),gG 60 54 false (.call (.f 58) [(.t 55),(.t 59)]),gI 61 (.pick (.t 54) (.v (.bool true)) (.t 60))] (kP [0,11,61] [0,11] []))
 (.cond (.t 61)
 (.reg false [gM 62 0,gI 63 (.load true 2 (.t 11)),gI 64 (.nilchk (.t 62)),gI 65 (.fadr 3 (.t 64)),gN (.store 2 (.t 65) (.t 63))] (kP [0] [0] []))
 .skip))
 (.reg false [gM 66 0,gI 67 (.nilchk (.t 66)),gI 68 (.fadr 0 (.t 67)),gN (.store 1 (.t 68) (.v (.bool true)))] (kP [] [0] [])))))))
theorem fcm_narrow : FmT Try.prog 42 Try.f42 C_narrow [] := fcm_mk [aN [0,3,5,6] [0,5,6] [],aN [0,3,8,9] [0] [],aN [0,10,11] [0,10,11] [],aN [0,10,11,44] [0,10,11] [],aN [0,11] [0,11] [],aN [0,11,61] [0,11] [],aN [0] [0] [],aN [] [0] []] Try.func42 (by kernel_rfl)
def C_addC : AC := (.seq (.reg true [gI 2 (.load false 1 (.t 0)),gI 3 (.nilchk (.t 2)),gI 4 (.fadr 6 (.t 3)),gI 5 (.load true 3 (.t 4)),gI 6 (.load false 1 (.t 0)),gI 7 (.nilchk (.t 6)),gI 8 (.fadr 3 (.t 7)),gI 9 (.load true 3 (.t 8)),gI 10 (.eqs true true [.i .i64,.i .i64,.i .i64] (.t 5) (.t 9))] (kP [0,1,10,1000001,1000002] [0,1000001,1000002] [1000005]))
 (.cond (.t 10)
 (.seq (.reg true [gI 11 (.load false 1 (.t 1)),gI 12 (.load false 1 (.t 0)),gI 13 (.nilchk (.t 12)),gI 14 (.fadr 6 (.t 13)),gI 15 (.load true 3 (.t 14)),gI 16 (.bslice 3 1 [(.t 15)]),gI 17 (.append 45 3 24 (.t 11) (.t 16)),gN (.store 1 (.t 1) (.t 17))] (kP [0,1000001] [0,1000001,1000002] [1000005]))
 (.reg true [gI 18 (.load false 1 (.t 0)),gI 19 (.load false 1 (.t 0)),gI 20 (.nilchk (.t 19)),gI 21 (.fadr 6 (.t 20)),gI 22 (.load true 3 (.t 21)),gI 23 (.callx (.f 39) [(.t 18),(.t 22)])] (kP [] [0,1000001,1000002] [1000005])))
 .skip))
theorem fcm_addC : FmT Try.prog 40 Try.f40 C_addC [] := fcm_mk [aN [0,1,10,1000001,1000002] [0,1000001,1000002] [1000005],aN [0,1000001] [0,1000001,1000002] [1000005],aN [] [0,1000001,1000002] [1000005]] Try.func40 (by kernel_rfl)
def C_add : AC := (.seq (.reg false [gI 2 (.box (.t 0)),gI 3 (.box (.t 1)),gI 4 (.mv (.v (.slice none 0 0)))] (kP [0,2,3] [0,2,3] [5]))
 (.seq (.seq (.reg false [gI 8 (.load false 1 (.t 2)),gI 9 (.nilchk (.t 8)),gI 10 (.fadr 2 (.t 9)),gI 11 (.load false 1 (.t 10)),gI 12 (.un .not (.t 11))] (kP [0,2,3,12] [0,2,3] [5]))
 (.cond (.t 12)
 (.seq (.reg false [gI 13 (.load false 1 (.t 2)),gI 14 (.nilchk (.t 13)),gI 15 (.fadr 2 (.t 14)),gN (.store 1 (.t 15) (.v (.bool true)))] (kP [0,2,3] [0,2,3] []))
 (.seq (.reg false [gI 16 (.load false 1 (.t 2)),gI 17 (.load true 3 (.t 3)),gI 18 (.callx (.f 39) [(.t 16),(.t 17)])] (kP [3] [0,3] []))
 (.seq (.reg false [gI 19 (.load true 3 (.t 3)),gI 20 (.bslice 3 1 [(.t 19)]),gM 4 20] (kP [4] [0] []))
 .ret)))
 .skip))
 (.seq (.seq (.reg false [gI 5 (.alloc [(.slice none 0 0)])] (kP [0,2,3,5] [0,2,3,5] []))
 (.ownb 5 0 5 45 3))
 (.seq (.reg false [gI 21 (.mkfn 40 [(.t 2),(.t 5)]),gM 6 21] (kP [0,2,3,5,6] [0,2,3,5] [5]))
 (.seq (.reg true [gI 22 (.fadr 0 (.t 3)),gI 23 (.load false 1 (.t 22)),gI 24 (.load false 1 (.t 2)),gI 25 (.nilchk (.t 24)),gI 26 (.fadr 3 (.t 25)),gI 27 (.fadr 0 (.t 26)),gI 28 (.load false 1 (.t 27)),gI 29 (.bin .sub (.t 23) (.t 28)),gI 30 (.load false 1 (.t 2)),gI 31 (.nilchk (.t 30)),gI 32 (.fadr 0 (.t 31)),gI 33 (.fadr 1 (.t 32)),gI 34 (.load false 1 (.t 33)),gI 35 (.bin .gtr (.t 29) (.t 34)),gM 7 35] (kP [0,2,3,5,6,7] [0,2,3,5] [5]))
 (.seq (.block 0 (.seq (.reg true [gI 37 (.fadr 2 (.t 3)),gI 38 (.load false 1 (.t 37)),gI 39 (.load false 1 (.t 2)),gI 40 (.nilchk (.t 39)),gI 41 (.fadr 3 (.t 40)),gI 42 (.fadr 2 (.t 41)),gI 43 (.load false 1 (.t 42)),gI 44 (.bin .neq (.t 38) (.t 43)),gM 36 44] (kP [0,2,3,5,6,7,36] [0,2,3,5] [5]))
 (.cond (.t 36)
 (.seq (.reg false [gM 45 6,gI 46 (.callm (.t 45) [] ⟨[0,2,5],[5],[0,2,5],[5],[]⟩)] (kP [0,2,3,5] [0,2,3,5] [5]))
 (.seq (.reg false [gI 47 (.load false 1 (.t 5)),gI 48 (.load true 3 (.t 3)),gI 49 (.bslice 3 1 [(.t 48)]),gI 50 (.append 45 3 24 (.t 47) (.t 49)),gN (.store 1 (.t 5) (.t 50))] (kP [0,2,3,5] [0,2,3,5] []))
 (.seq (.reg false [gI 51 (.load false 1 (.t 2)),gI 52 (.load true 3 (.t 3)),gI 53 (.callx (.f 39) [(.t 51),(.t 52)])] (kP [5] [0,5] []))
 (.seq (.reg false [gI 54 (.load false 1 (.t 5)),gM 4 54] (kP [4] [0] []))
 .ret))))
 (.seq (.reg false [gI 56 (.fadr 2 (.t 3)),gI 57 (.load false 1 (.t 56)),gI 58 (.bin .eql (.t 57) (oI 2)),gM 55 58] (kP [0,2,3,5,6,7,55] [0,2,3,5] [5]))
 (.cond (.t 55)
 (.seq (.reg false [gM 59 7] (kP [0,2,3,5,6,59] [0,2,3,5] [5]))
 (.cond (.t 59)
 (.reg false [gM 60 6,gI 61 (.callm (.t 60) [] ⟨[0,2,5],[5],[0,2,5],[5],[]⟩)] (kP [0,2,3,5] [0,2,3,5] [5]))
 .skip))
 (.seq (.reg true [gM 63 7,gM 64 63,gG 65 64 false (.load false 1 (.t 2)),gG 66 64 false (.nilchk (.t 65)),gG 67 64 false (.fadr 9 (.t 66)),gG 68 64 false (.load false 1 (.t 2)),gG 69 64 false (.nilchk (.t 68)),gG 70 64 false (.fadr 3 (.t 69)),gG 71 64 false (.load true 3 (.t 70)),gG 72 64 false (.load true 3 (.t 3)),gG 73 64 false (.callm (.f 41) [(.t 67),(.t 71),(.t 72)] ⟨[0],[],[0],[],[]⟩),gG 74 64 false (.un .not (.t 73)),gI 75 (.pick (.t 64) (.v (.bool true)) (.t 74)),gM 62 75] (kP [0,2,3,5,6,62] [0,2,3,5] [5]))
 (.cond (.t 62)
 (.reg false [gM 76 6,gI 77 (.callm (.t 76) [] ⟨[0,2,5],[5],[0,2,5],[5],[]⟩)] (kP [0,2,3,5] [0,2,3,5] [5]))
 .skip)))))))
 (.seq (.seq (.reg false [gI 78 (.fadr 2 (.t 3)),gI 79 (.load false 1 (.t 78)),gI 80 (.bin .neq (.t 79) (oI 2))] (kP [0,2,3,5,80] [0,2,3,5] [5]))
 (.cond (.t 80)
 (.reg true [gI 81 (.load false 1 (.t 2)),gI 82 (.nilchk (.t 81)),gI 83 (.fadr 9 (.t 82)),gI 84 (.load false 1 (.t 2)),gI 85 (.nilchk (.t 84)),gI 86 (.fadr 3 (.t 85)),gI 87 (.load true 3 (.t 86)),gI 88 (.load true 3 (.t 3)),gI 89 (.load false 1 (.t 2)),gI 90 (.nilchk (.t 89)),gI 91 (.fadr 0 (.t 90)),gI 92 (.fadr 0 (.t 91)),gI 93 (.load false 1 (.t 92)),gI 94 (.callm (.f 42) [(.t 83),(.t 87),(.t 88),(.t 93)] ⟨[0],[],[0],[],[]⟩)] (kP [0,2,3,5] [0,2,3,5] [5]))
 .skip))
 (.seq (.reg false [gI 95 (.load false 1 (.t 2)),gI 96 (.load true 3 (.t 3)),gI 97 (.nilchk (.t 95)),gI 98 (.fadr 6 (.t 97)),gN (.store 3 (.t 98) (.t 96))] (kP [5] [0,5] []))
 (.seq (.reg false [gI 99 (.load false 1 (.t 5)),gM 4 99] (kP [4] [0] []))
 .ret)))))))))
theorem fc_add : FcT Try.prog 19 Try.f19 C_add [.t 4] := fc_mk [aN [0,2,3] [0,2,3] [5],aN [0,2,3,12] [0,2,3] [5],aN [0,2,3] [0,2,3] [],aN [3] [0,3] [],aN [4] [0] [],⟨(kP [0,2,3,5] [0,2,3,5] []),[(1000005,45,3)],[],[],[]⟩,aN [0,2,3,5,6] [0,2,3,5] [5],aN [0,2,3,5,6,7] [0,2,3,5] [5],aN [0,2,3,5,6,7,36] [0,2,3,5] [5],⟨(kP [0,2,3,5] [0,2,3,5] [5]),[],[],[],[(46,⟨[0,2,5],[5],[0,2,5],[5],[]⟩)]⟩,aN [0,2,3,5] [0,2,3,5] [],aN [5] [0,5] [],aN [4] [0] [],aN [0,2,3,5,6,7,55] [0,2,3,5] [5],aN [0,2,3,5,6,59] [0,2,3,5] [5],⟨(kP [0,2,3,5] [0,2,3,5] [5]),[],[],[],[(61,⟨[0,2,5],[5],[0,2,5],[5],[]⟩)]⟩,⟨(kP [0,2,3,5,6,62] [0,2,3,5] [5]),[],[],[],[(73,⟨[0],[],[0],[],[]⟩)]⟩,⟨(kP [0,2,3,5] [0,2,3,5] [5]),[],[],[],[(77,⟨[0,2,5],[5],[0,2,5],[5],[]⟩)]⟩,aN [0,2,3,5,80] [0,2,3,5] [5],⟨(kP [0,2,3,5] [0,2,3,5] [5]),[],[],[],[(94,⟨[0],[],[0],[],[]⟩)]⟩,aN [5] [0,5] [],aN [4] [0] []] Try.func19 (by kernel_rfl)
def C_flush : AC := (.seq (.reg false [gI 2 (.mv (.v (.slice none 0 0)))] (kP [0] [0] []))
 (.seq (.seq (.reg false [gI 3 (.mv (.v (.slice none 0 0)))] (kP [0,3] [0] []))
 (.own 3 45 3))
 (.seq (.seq (.reg true [gM 4 0,gI 5 (.nilchk (.t 4)),gI 6 (.fadr 2 (.t 5)),gI 7 (.load false 1 (.t 6)),gM 8 7,gG 9 8 true (.mv (.t 0)),gG 10 8 true (.nilchk (.t 9)),gG 11 8 true (.fadr 6 (.t 10)),gG 12 8 true (.load true 3 (.t 11)),gG 13 8 true (.mv (.t 0)),gG 14 8 true (.nilchk (.t 13)),gG 15 8 true (.fadr 3 (.t 14)),gG 16 8 true (.load true 3 (.t 15)),gG 17 8 true (.eqs true true [.i .i64,.i .i64,.i .i64] (.t 12) (.t 16)),gI 18 (.pick (.t 8) (.t 17) (.v (.bool false)))] (kP [0,3,18] [0] [3]))
 (.cond (.t 18)
 (.reg false [gM 19 3,gM 20 0,gI 21 (.nilchk (.t 20)),gI 22 (.fadr 6 (.t 21)),gI 23 (.load true 3 (.t 22)),gI 24 (.bslice 3 1 [(.t 23)]),gI 25 (.append 45 3 24 (.t 19) (.t 24)),gM 3 25] (kP [0,3] [0] []))
 .skip))
 (.seq (.reg false [gM 26 0,gM 27 0,gI 28 (.nilchk (.t 27)),gI 29 (.fadr 0 (.t 28)),gI 30 (.load true 2 (.t 29)),gI 31 (.build [(.int .i64 (0)),(.int .i64 (0)),(.bool false),(.int .i64 (0)),(.int .i64 (0)),(.int .i64 (0)),(.int .i64 (0)),(.int .i64 (0)),(.int .i64 (0)),(.bool false),(.int .i64 (0)),(.int .i64 (0)),(.int .i64 (0)),(.int .i64 (0))] [(0,2,(.t 30))]),gI 32 (.nilchk (.t 26)),gN (.store 14 (.t 32) (.t 31))] (kP [3] [0] []))
 (.seq (.reg false [gM 33 3,gM 2 33] (kP [2] [0] []))
 .ret)))))
theorem fc_flush : FcT Try.prog 20 Try.f20 C_flush [.t 2] := fc_mk [aN [0] [0] [],⟨(kP [0,3] [0] []),[(3,45,3)],[],[],[]⟩,aN [0,3,18] [0] [3],aN [0,3] [0] [],aN [3] [0] [],aN [2] [0] []] Try.func20 (by kernel_rfl)
section
variable {P : Program} {Q : AX → AS → Prop} {s : AS} {k : List KI} {kp : Option Keep} {l : List GI}
theorem CALLX_det {f : FuncId} {key : Nat} {cs0 cs : List Cel} {vargs : List Val} {d : Option Nat} {r : Val} (hf : FC P f (some cs0) vargs (fun cs' x => cs' = cs ∧ x = r)) (hr : dataRV r = true) (hc : cs.all dataRC = true)
  (h : rg P l kp k Q ({ s with bx := upd s.bx key (some cs) }.put d r)) : CALLX P f key cs0 vargs d l kp k Q s :=
 ⟨_, hf, ⟨cs, r, rfl, rfl⟩, fun _ _ hx => by obtain ⟨rfl, rfl⟩ := hx; exact ⟨hr, hc, h⟩⟩
end
/-- Door, whether it has begun, pivot, held sample; the cone: whether there is one, its lowest and highest slope. -/
structure Sc where
 dv : Int
 mg : Int
 b : Bool
 p : Smp
 h : Smp
 c : Bool
 lr : Int
 ln : Int
 hr : Int
 hn : Int
/-- What stands behind the state in its box. -/
def tlC : Option Int → List Cel
 | none => []
 | some n => [.g (.int .i64 n)]
def scC (x : Sc) (o : Option Int) : List Cel := .g (.int .i64 x.dv) :: .g (.int .i64 x.mg) :: .g (.bool x.b) :: .g (.int .i64 x.p.a) :: .g (.int .i64 x.p.v) :: .g (.int .i64 x.p.q) :: .g (.int .i64 x.h.a) :: .g (.int .i64 x.h.v) :: .g (.int .i64 x.h.q) :: .g (.bool x.c) :: .g (.int .i64 x.lr) :: .g (.int .i64 x.ln) :: .g (.int .i64 x.hr) :: .g (.int .i64 x.hn) :: tlC o
section
variable {s : AS} {o : Option Int}
theorem tl_ren {K : Kp} : (tlC o).map (s.renC K) = tlC o := by cases o <;> rfl
theorem tl_pass {m : CAnn} : (tlC o).map (s.passC m) = tlC o := by cases o <;> rfl
theorem tl_back {m : CAnn} : (tlC o).map (s.backC m) = tlC o := by cases o <;> rfl
theorem tl_view : (tlC o).map s.viewC = tlC o := by cases o <;> rfl
theorem tl_fin : (tlC o).map s.finC = tlC o := by cases o <;> rfl
theorem tl_dat : (tlC o).map Cel.dat = tlC o := by cases o <;> rfl
theorem tl_rn {p q : Nat → Nat} : (tlC o).map (rnC p q) = tlC o := by cases o <;> rfl
theorem tl_plain : (tlC o).all plainC = true := by cases o <;> rfl
end
attribute [go_sem] tl_ren tl_pass tl_back tl_view tl_fin tl_dat tl_rn tl_plain
theorem sc_data (x : Sc) (o : Option Int) : (scC x o).all dataRC = true := by cases o <;> rfl
theorem less_fc (a b c d : Int) (h1 : -9000000000000000000 ≤ a * d ∧ a * d ≤ 9000000000000000000) (h2 : -9000000000000000000 ≤ c * b ∧ c * b ≤ 9000000000000000000) :
  FC Try.prog 58 none [.ag [.g (.int .i64 a), .g (.int .i64 b)], .ag [.g (.int .i64 c), .g (.int .i64 d)]] (fun _ r => r = bv (decide (a * d < c * b))) := by
 refine fc_less (by simp +arith) ?_
 unfold C_less
 generalize hx : a * d = X at *
 generalize hy : c * b = Y at *
 simp (maxSteps := 1000000) (disch := omega) only [go_sem]
 rw [hx, hy]
def arch (x : Sc) (s : Smp) : Sc := ⟨x.dv, x.mg, x.b, s, s, false, 0, 0, 0, 0⟩
theorem archive_fc (x : Sc) (o : Option Int) (s : Smp) : FC Try.prog 39 (some (scC x o)) [.ag (smpC s)] (fun cs r => cs = scC (arch x s) o ∧ r = .tu []) := by
 refine fc_archive (by simp +arith) ?_
 unfold C_archive scC arch
 simp (maxSteps := 1000000) (disch := omega) only [go_sem]
/-- A slope is less than another one. -/
abbrev sl (a b c d : Int) : Prop := a * d < c * b
def hasB (x : Sc) (p s : Smp) : Bool := !x.c || (!decide (sl (s.v - p.v) (s.a - p.a) x.lr x.ln) && !decide (sl x.hr x.hn (s.v - p.v) (s.a - p.a)))
def nrw (x : Sc) (p s : Smp) (dev : Int) : Sc :=
 let lo : Bool := !x.c || decide (sl x.lr x.ln (s.v - p.v - dev) (s.a - p.a))
 let hi : Bool := !x.c || decide (sl (s.v - p.v + dev) (s.a - p.a) x.hr x.hn)
 ⟨x.dv, x.mg, x.b, x.p, x.h, true, if lo then s.v - p.v - dev else x.lr, if lo then s.a - p.a else x.ln, if hi then s.v - p.v + dev else x.hr, if hi then s.a - p.a else x.hn⟩
/-- The slopes of a cone are small enough. -/
def okC (x : Sc) : Prop := (-4000000 ≤ x.lr ∧ x.lr ≤ 4000000) ∧ (0 ≤ x.ln ∧ x.ln ≤ 345686400000) ∧ (-4000000 ≤ x.hr ∧ x.hr ≤ 4000000) ∧ (0 ≤ x.hn ∧ x.hn ≤ 345686400000)
theorem prod_bd {a b : Int} (ha : -4000000 ≤ a ∧ a ≤ 4000000) (hb : 0 ≤ b ∧ b ≤ 345686400000) : -9000000000000000000 ≤ a * b ∧ a * b ≤ 9000000000000000000 := by
 have h1 := Int.mul_le_mul_of_nonneg_right ha.1 hb.1
 have h2 := Int.mul_le_mul_of_nonneg_right ha.2 hb.1
 omega
theorem has_fcm (x : Sc) (o : Option Int) (p s : Smp) (hx : okC x) (hv : -2000000 ≤ s.v - p.v ∧ s.v - p.v ≤ 2000000) (ha : 0 ≤ s.a - p.a ∧ s.a - p.a ≤ 345686400000) :
  FCM Try.prog 41 ⟨[(0, scC x o)], []⟩ [.one (.bx 0 9), .ag (smpC p), .ag (smpC s)] (fun H r => H = ⟨[(0, scC x o)], []⟩ ∧ r = bv (hasB x p s)) := by
 refine fcm_has (K := ⟨[], [0], []⟩) (by simp +arith) (by simp) (by simp) ?_
 obtain ⟨h1, h2, h3, h4⟩ := hx
 have b1 := prod_bd (a := s.v - p.v) (b := x.ln) (by omega) h2
 have b2 := prod_bd (b := s.a - p.a) h1 ha
 have b3 := prod_bd (b := s.a - p.a) h3 ha
 have b4 := prod_bd (a := s.v - p.v) (b := x.hn) (by omega) h4
 have l1 := less_fc (s.v - p.v) (s.a - p.a) x.lr x.ln b1 b2
 have l2 := less_fc x.hr x.hn (s.v - p.v) (s.a - p.a) b3 b4
 unfold C_has hasB sl scC
 cases hc : x.c with
 | false =>
  simp (maxSteps := 1000000) (disch := omega) only [go_sem]
  rfl
 | true =>
  by_cases c1 : (s.v - p.v) * x.ln < x.lr * (s.a - p.a)
  ·rw [decide_eq_true c1] at l1 ⊢
   simp (maxSteps := 1000000) (disch := omega) only [go_sem]
   refine CALL_det l1 (.inl rfl) ?_
   simp (maxSteps := 1000000) (disch := omega) only [go_sem]
   rfl
  ·rw [decide_eq_false c1] at l1 ⊢
   by_cases c2 : x.hr * (s.a - p.a) < (s.v - p.v) * x.hn
   ·rw [decide_eq_true c2] at l2 ⊢
    simp (maxSteps := 1000000) (disch := omega) only [go_sem]
    refine CALL_det l1 (.inl rfl) ?_
    simp (maxSteps := 1000000) (disch := omega) only [go_sem]
    refine CALL_det l2 (.inl rfl) ?_
    simp (maxSteps := 1000000) (disch := omega) only [go_sem]
    rfl
   ·rw [decide_eq_false c2] at l2 ⊢
    simp (maxSteps := 1000000) (disch := omega) only [go_sem]
    refine CALL_det l1 (.inl rfl) ?_
    simp (maxSteps := 1000000) (disch := omega) only [go_sem]
    refine CALL_det l2 (.inl rfl) ?_
    simp (maxSteps := 1000000) (disch := omega) only [go_sem]
    rfl
theorem narrow_fcm (x : Sc) (o : Option Int) (p s : Smp) (dev : Int) (hx : okC x) (hv : -2000000 ≤ s.v - p.v ∧ s.v - p.v ≤ 2000000) (ha : 0 ≤ s.a - p.a ∧ s.a - p.a ≤ 345686400000) (hd : 0 ≤ dev ∧ dev ≤ 2000000) :
  FCM Try.prog 42 ⟨[(0, scC x o)], []⟩ [.one (.bx 0 9), .ag (smpC p), .ag (smpC s), iv dev] (fun H r => H = ⟨[(0, scC (nrw x p s dev) o)], []⟩ ∧ r = .tu []) := by
 refine fcm_narrow (K := ⟨[], [0], []⟩) (by simp +arith) (by simp) (by simp) ?_
 obtain ⟨h1, h2, h3, h4⟩ := hx
 have b1 := prod_bd (a := s.v - p.v - dev) (b := x.ln) (by omega) h2
 have b2 := prod_bd (b := s.a - p.a) h1 ha
 have b3 := prod_bd (b := s.a - p.a) h3 ha
 have b4 := prod_bd (a := s.v - p.v + dev) (b := x.hn) (by omega) h4
 have l1 := less_fc x.lr x.ln (s.v - p.v - dev) (s.a - p.a) b2 b1
 have l2 := less_fc (s.v - p.v + dev) (s.a - p.a) x.hr x.hn b4 b3
 unfold C_narrow nrw sl scC
 cases hc : x.c with
 | false =>
  simp (maxSteps := 1000000) (disch := omega) only [go_sem]
  rfl
 | true =>
  by_cases c1 : x.lr * (s.a - p.a) < (s.v - p.v - dev) * x.ln
  ·rw [decide_eq_true c1] at l1 ⊢
   by_cases c2 : (s.v - p.v + dev) * x.hn < x.hr * (s.a - p.a)
   ·rw [decide_eq_true c2] at l2 ⊢
    simp (maxSteps := 1000000) (disch := omega) only [go_sem]
    refine CALL_det l1 (.inl rfl) ?_
    simp (maxSteps := 1000000) (disch := omega) only [go_sem]
    refine CALL_det l2 (.inl rfl) ?_
    simp (maxSteps := 1000000) (disch := omega) only [go_sem]
    rfl
   ·rw [decide_eq_false c2] at l2 ⊢
    simp (maxSteps := 1000000) (disch := omega) only [go_sem]
    refine CALL_det l1 (.inl rfl) ?_
    simp (maxSteps := 1000000) (disch := omega) only [go_sem]
    refine CALL_det l2 (.inl rfl) ?_
    simp (maxSteps := 1000000) (disch := omega) only [go_sem]
    rfl
  ·rw [decide_eq_false c1] at l1 ⊢
   by_cases c2 : (s.v - p.v + dev) * x.hn < x.hr * (s.a - p.a)
   ·rw [decide_eq_true c2] at l2 ⊢
    simp (maxSteps := 1000000) (disch := omega) only [go_sem]
    refine CALL_det l1 (.inl rfl) ?_
    simp (maxSteps := 1000000) (disch := omega) only [go_sem]
    refine CALL_det l2 (.inl rfl) ?_
    simp (maxSteps := 1000000) (disch := omega) only [go_sem]
    rfl
   ·rw [decide_eq_false c2] at l2 ⊢
    simp (maxSteps := 1000000) (disch := omega) only [go_sem]
    refine CALL_det l1 (.inl rfl) ?_
    simp (maxSteps := 1000000) (disch := omega) only [go_sem]
    refine CALL_det l2 (.inl rfl) ?_
    simp (maxSteps := 1000000) (disch := omega) only [go_sem]
    rfl
abbrev smpRow (l : List Smp) : Row := ⟨0, 45, 3, l.map smpC⟩
/-- Two samples are one. -/
def sm (x y : Smp) : Prop := x.a = y.a ∧ x.v = y.v ∧ x.q = y.q
instance (x y : Smp) : Decidable (sm x y) := inferInstanceAs (Decidable (_ ∧ _))
/-- What is held is archived, if it is not the pivot. -/
def keepS (x : Sc) (out : List Smp) : Sc × List Smp := if sm x.h x.p then (x, out) else (arch x x.h, out ++ [x.h])
theorem addC_fcm (x : Sc) (o : Option Int) (out : List Smp) (hl : out.length ≤ 1000000) :
  FCM Try.prog 40 ⟨[(0, scC x o), (1000001, [.bx 0 0]), (1000002, [.ow 1000005 0])], [(1000005, smpRow out)]⟩ [.one (.bx 1000001 0), .one (.bx 1000002 0)]
   (fun H r => H = ⟨[(0, scC (keepS x out).1 o), (1000001, [.bx 0 0]), (1000002, [.ow 1000005 0])], [(1000005, smpRow (keepS x out).2)]⟩ ∧ r = .tu []) := by
 refine fcm_addC (K := ⟨[], [0, 1000001, 1000002], [1000005]⟩) (by simp +arith) (by simp [XK]) (by simp [XK]) ?_
 have ha := archive_fc x o x.h
 unfold C_addC keepS
 by_cases hs : sm x.h x.p
 ·rw [if_pos hs]
  unfold sm at hs
  unfold scC
  simp (maxSteps := 1000000) (disch := omega) only [go_sem]
 ·rw [if_neg hs]
  unfold sm at hs
  unfold scC at ha ⊢
  simp (maxSteps := 1000000) (disch := omega) only [go_sem]
  refine CALLX_det ha rfl (sc_data (arch x x.h) o) ?_
  unfold arch
  simp (maxSteps := 1000000) (disch := omega) only [go_sem]
  simp only [smpRow, List.map_append, List.map_cons, List.map_nil, smpC_eq]
def pA (k : Nat) : Nat := swp 2 1000001 (swp 5 1000002 k)
theorem pA_pA (k : Nat) : pA (pA k) = k := by unfold pA swp; (repeat' split) <;> omega
section
variable {Q : AX → AS → Prop} {s : AS} {k : List KI} {kp : Option Keep} {l : List GI}
theorem CALLM_keep (x : Sc) (o : Option Int) {d : Option Nat} (h : rg Try.prog l kp k Q ((s.after ⟨[0, 2, 5], [5], [0, 2, 5], [5], []⟩ ⟨[(0, scC (keepS x []).1 o), (2, [.bx 0 0]), (5, [.ow 5 0])], [(5, smpRow (keepS x []).2)]⟩).put d (s.backV ⟨[0, 2, 5], [5], [0, 2, 5], [5], []⟩ (.tu [])))) :
  CALLM Try.prog 40 ⟨[(0, scC x o), (2, [.bx 0 0]), (5, [.ow 5 0])], [(5, smpRow [])]⟩ [.one (.bx 2 0), .one (.bx 5 0)] ⟨[0, 2, 5], [5], [0, 2, 5], [5], []⟩ d l kp k Q s := by
 refine CALLM_rn pA (swp 5 1000005) pA_pA (swp_swp 5 1000005) (addC_fcm x o [] (by simp)) (by simp) ?_ ?_ ⟨rfl, rfl⟩ ?_
 ·cases o <;> rfl
 ·rfl
 ·have e : (⟨[(0, scC (keepS x []).1 o), (1000001, [.bx 0 0]), (1000002, [.ow 1000005 0])], [(1000005, smpRow (keepS x []).2)]⟩ : Hp).rn pA (swp 5 1000005) = ⟨[(0, scC (keepS x []).1 o), (2, [.bx 0 0]), (5, [.ow 5 0])], [(5, smpRow (keepS x []).2)]⟩ := by cases o <;> rfl
  rw [e]
  exact h
end
def hldS (x : Sc) (s : Smp) : Sc := ⟨x.dv, x.mg, x.b, x.p, s, x.c, x.lr, x.ln, x.hr, x.hn⟩
def addS (x : Sc) (s : Smp) : Sc × List Smp :=
 if x.b = false then (arch ⟨x.dv, x.mg, true, x.p, x.h, x.c, x.lr, x.ln, x.hr, x.hn⟩ s, [s])
 else if s.q ≠ x.p.q then (arch (keepS x []).1 s, (keepS x []).2 ++ [s])
 else if s.q = 2 then (if s.a - x.p.a > x.mg then (hldS (keepS x []).1 s, (keepS x []).2) else (hldS x s, []))
 else if s.a - x.p.a > x.mg ∨ hasB x x.p s = false then (hldS (nrw (keepS x []).1 (keepS x []).1.p s x.dv) s, (keepS x []).2) else (hldS (nrw x x.p s x.dv) s, [])
/-- The state is right, and the sample comes behind it. -/
structure OkX (x : Sc) (s : Smp) : Prop where
 okc : okC x
 okd : 0 ≤ x.dv ∧ x.dv ≤ 2000000
 okm : 1 ≤ x.mg ∧ x.mg ≤ 345686400000
 okp : okSmp x.p
 okh : okSmp x.h
 oks : okSmp s
 lep : x.p.a ≤ s.a
 leh : x.h.a ≤ s.a
theorem keepS_ok {x : Sc} {s : Smp} (h : OkX x s) : OkX (keepS x []).1 s ∧ (keepS x []).1.b = x.b ∧ (keepS x []).1.dv = x.dv ∧ (keepS x []).2.length ≤ 1 := by
 unfold keepS
 split
 ·exact ⟨h, rfl, rfl, by simp⟩
 ·exact ⟨⟨by unfold okC arch; simp, h.okd, h.okm, h.okh, h.okh, h.oks, h.leh, h.leh⟩, rfl, rfl, by simp⟩
set_option maxHeartbeats 12000000 in
set_option maxRecDepth 8000 in
theorem add_fc (x : Sc) (o : Option Int) (s : Smp) (hx : x.b = true → OkX x s) :
  FC Try.prog 19 (some (scC x o)) [.ag (smpC s)] (fun cs r => cs = scC (addS x s).1 o ∧ r = smps true (addS x s).2) := by
 refine fc_add (by simp +arith) ?_
 unfold C_add addS
 cases hb : x.b with
 | false =>
  have ha := archive_fc ⟨x.dv, x.mg, true, x.p, x.h, x.c, x.lr, x.ln, x.hr, x.hn⟩ o s
  unfold scC at ha ⊢
  rw [hb]
  simp (maxSteps := 1000000) (disch := omega) only [go_sem]
  refine CALLX_det ha rfl (sc_data (arch ⟨x.dv, x.mg, true, x.p, x.h, x.c, x.lr, x.ln, x.hr, x.hn⟩ s) o) ?_
  unfold arch
  simp (maxSteps := 1000000) (disch := omega) only [go_sem]
  rfl
 | true =>
  have hk := hx hb
  obtain ⟨k1, k2, k3, k4⟩ := keepS_ok hk
  have hK := fun {Q : AX → AS → Prop} {s : AS} {k : List KI} {kp : Option Keep} {l : List GI} {d : Option Nat} => CALLM_keep (Q := Q) (s := s) (k := k) (kp := kp) (l := l) x o (d := d)
  have p1 := hk.okp
  have p2 := hk.oks
  have p3 := hk.lep
  have p4 := k1.okp
  have p5 := k1.lep
  have p6 := hk.okd
  have p7 := hk.okm
  have p8 := hk.okc
  have p9 := k1.okc
  unfold okSmp at p1 p2 p4
  by_cases c1 : s.q = x.p.q
  ·rw [if_neg (by simp), if_neg (show ¬(s.q ≠ x.p.q) from fun h => h c1)]
   by_cases c2 : s.q = 2
   ·rw [if_pos c2]
    by_cases c3 : s.a - x.p.a > x.mg
    ·rw [if_pos c3]
     unfold scC at hK ⊢
     rw [hb] at hK ⊢
     generalize keepS x [] = y at *
     obtain ⟨y, out⟩ := y
     simp only at k1 k2 k3 k4 p4 p5 p9 hK
     simp (maxSteps := 1000000) (disch := omega) only [go_sem]
     refine ⟨rfl, hK ?_⟩
     unfold hldS
     simp (maxSteps := 1000000) (disch := omega) only [go_sem]
    ·rw [if_neg c3]
     unfold scC
     rw [hb]
     unfold hldS
     simp (maxSteps := 1000000) (disch := omega) only [go_sem]
     exact ⟨by rw [hb], rfl⟩
   ·rw [if_neg c2]
    have hn := fun (x : Sc) (h1 : okC x) (h2 : -2000000 ≤ s.v - x.p.v ∧ s.v - x.p.v ≤ 2000000) (h3 : 0 ≤ s.a - x.p.a ∧ s.a - x.p.a ≤ 345686400000) (h4 : 0 ≤ x.dv ∧ x.dv ≤ 2000000) => narrow_fcm x o x.p s x.dv h1 h2 h3 h4
    have hny := hn (keepS x []).1 p9 (by omega) (by omega) (by omega)
    have hnx := hn x p8 (by omega) (by omega) (by omega)
    have hhas := has_fcm x o x.p s p8 (by omega) (by omega)
    clear hn
    by_cases c3 : s.a - x.p.a > x.mg
    ·rw [if_pos (.inl c3), ← k3]
     unfold scC at hK hny ⊢
     rw [hb] at hK k2 ⊢
     generalize keepS x [] = y at *
     obtain ⟨y, out⟩ := y
     simp only at k1 k2 k3 k4 p4 p5 p9 hK hny
     simp (maxSteps := 1000000) (disch := omega) only [go_sem]
     refine ⟨rfl, hK ?_⟩
     simp (maxSteps := 1000000) (disch := omega) only [go_sem]
     refine ⟨rfl, CALLM_det hny ⟨rfl, rfl⟩ ?_⟩
     unfold hldS
     simp (maxSteps := 1000000) (disch := omega) only [go_sem]
    ·cases hh : hasB x x.p s with
     | true =>
      rw [if_neg (by rintro (h | h); exact c3 h; cases h)]
      rw [hh] at hhas
      unfold scC at hhas hnx ⊢
      rw [hb] at hhas hnx ⊢
      clear hK
      simp (maxSteps := 1000000) (disch := omega) only [go_sem]
      refine ⟨rfl, CALLM_det hhas ⟨rfl, rfl⟩ ?_⟩
      simp (maxSteps := 1000000) (disch := omega) only [go_sem]
      refine ⟨rfl, CALLM_det hnx ⟨rfl, rfl⟩ ?_⟩
      unfold hldS
      simp (maxSteps := 1000000) (disch := omega) only [go_sem]
      rfl
     | false =>
      rw [if_pos (.inr rfl), ← k3]
      rw [hh] at hhas
      unfold scC at hK hny hhas ⊢
      rw [hb] at hK k2 hhas ⊢
      generalize keepS x [] = y at *
      obtain ⟨y, out⟩ := y
      simp only at k1 k2 k3 k4 p4 p5 p9 hK hny
      simp (maxSteps := 1000000) (disch := omega) only [go_sem]
      refine ⟨rfl, CALLM_det hhas ⟨rfl, rfl⟩ ?_⟩
      simp (maxSteps := 1000000) (disch := omega) only [go_sem]
      refine ⟨rfl, hK ?_⟩
      simp (maxSteps := 1000000) (disch := omega) only [go_sem]
      refine ⟨rfl, CALLM_det hny ⟨rfl, rfl⟩ ?_⟩
      unfold hldS
      simp (maxSteps := 1000000) (disch := omega) only [go_sem]
  ·rw [if_neg (by simp), if_pos c1]
   have ha := archive_fc (keepS x []).1 o s
   have hsd := sc_data (arch (keepS x []).1 s) o
   unfold scC at hK ha hsd ⊢
   rw [hb] at hK ⊢
   generalize keepS x [] = y at *
   obtain ⟨y, out⟩ := y
   simp only at k1 k2 k3 k4 p4 p5 ha hK hsd
   simp (maxSteps := 1000000) (disch := omega) only [go_sem]
   refine ⟨rfl, hK ?_⟩
   simp (maxSteps := 1000000) (disch := omega) only [go_sem]
   refine CALLX_det ha rfl hsd ?_
   unfold arch
   simp (maxSteps := 1000000) (disch := omega) only [go_sem]
   simp only [smps, List.map_append, List.map_cons, List.map_nil, smpC_eq]
/-- What is held, if it is not the pivot; the state begins anew. -/
def fluS (x : Sc) : Sc × List Smp := (⟨x.dv, x.mg, false, ⟨0, 0, 0⟩, ⟨0, 0, 0⟩, false, 0, 0, 0, 0⟩, if x.b = true ∧ ¬sm x.h x.p then [x.h] else [])
theorem flush_fc (x : Sc) (o : Option Int) : FC Try.prog 20 (some (scC x o)) [] (fun cs r => cs = scC (fluS x).1 o ∧ r = smps true (fluS x).2) := by
 refine fc_flush (by simp +arith) ?_
 unfold C_flush fluS
 cases hb : x.b with
 | false =>
  rw [if_neg (by simp)]
  unfold scC
  rw [hb]
  simp (maxSteps := 1000000) (disch := omega) only [go_sem]
  rfl
 | true =>
  by_cases hs : sm x.h x.p
  ·rw [if_neg (fun h => h.2 hs)]
   unfold sm at hs
   unfold scC
   rw [hb]
   simp (maxSteps := 1000000) (disch := omega) only [go_sem]
   rfl
  ·rw [if_pos ⟨rfl, hs⟩]
   unfold sm at hs
   unfold scC
   rw [hb]
   simp (maxSteps := 1000000) (disch := omega) only [go_sem]
   rfl
end Go.Proofs.Ytiiblflmfadmbaa

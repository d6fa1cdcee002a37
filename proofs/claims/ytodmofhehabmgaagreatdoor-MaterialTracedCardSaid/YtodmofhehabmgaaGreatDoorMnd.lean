/-
 Transfers of many scales, sorted; a least share: what streams draw.
-/
import Derived.Test.YtodmofhehabmgaaGreatDoorTgl
import Derived.Test.YtodmofhehabmgaaGreatDoorFrx
namespace Go.Proofs.YtodmofhehabmgaaGreatDoor
open Go Go.Ai
set_option linter.unusedSimpArgs false
set_option linter.unusedVariables false
set_option maxHeartbeats 4000000
def C_mnyC : AC := (.seq (.reg false [gI 2 (.box (.t 0)),gI 3 (.box (.t 1)),gI 4 (.mv (oI 0))] (kP [2,3] [2,3] []))
 (.seq (.seq (.reg false [gI 5 (.fadr 0 (.t 2)),gI 6 (.load false 1 (.t 5)),gI 7 (.fadr 0 (.t 3)),gI 8 (.load false 1 (.t 7)),gI 9 (.bin .lss (.t 6) (.t 8))] (kP [9] [] []))
 (.cond (.t 9)
 (.seq (.reg false [gI 4 (.mv (oI (-1)))] (kP [4] [] []))
 .ret)
 .skip))
 (.seq (.reg false [gI 4 (.mv (oI 1))] (kP [4] [] []))
 .ret)))
theorem fc_mnyC : FcT Tryz.prog 35 Tryz.f35 C_mnyC [.t 4] := fc_mk [aN [2,3] [2,3] [],aN [9] [] [],aN [4] [] [],aN [4] [] []] Tryz.func35 (by kernel_rfl)
def C_insM : AC := (.seq (.reg false [gM 10 1,gI 11 (.bin .add (.t 10) (oI 1)),gM 8 11] (kP [0,1,2,3,8] [] [1000000]))
 (.block 0 (.loop (.seq (.seq (.reg false [gM 12 8,gM 13 2,gI 14 (.bin .lss (.t 12) (.t 13))] (kP [0,1,2,3,8,14] [] [1000000]))
 (.cond (.t 14)
 .skip
 (.exit 0)))
 (.seq (.block 1 (.seq (.reg false [gM 17 8,gM 9 17] (kP [0,1,2,3,8,9] [] [1000000]))
 (.block 2 (.loop (.seq (.seq (.reg true [gM 18 9,gM 19 1,gI 20 (.bin .gtr (.t 18) (.t 19)),gM 21 20,gG 22 21 true (.mv (.t 3)),gG 23 21 true (.mv (.t 0)),gG 24 21 true (.mv (.t 9)),gG 25 21 true (.iadr 3 (.t 23) (.t 24)),gG 26 21 true (.load true 3 (.t 25)),gG 27 21 true (.mv (.t 0)),gG 28 21 true (.mv (.t 9)),gG 29 21 true (.bin .sub (.t 28) (oI 1)),gG 30 21 true (.iadr 3 (.t 27) (.t 29)),gG 31 21 true (.load true 3 (.t 30)),gG 32 21 true (.call (.t 22) [(.t 26),(.t 31)]),gG 33 21 true (.bin .lss (.t 32) (oI 0)),gI 34 (.pick (.t 21) (.t 33) (.v (.bool false)))] (kP [0,1,2,3,8,9,34] [] [1000000]))
 (.cond (.t 34)
 .skip
 (.exit 2)))
 (.seq (.block 3 (.reg true [gM 37 0,gM 38 9,gM 39 0,gM 40 9,gI 41 (.bin .sub (.t 40) (oI 1)),gM 42 0,gM 43 9,gI 44 (.bin .sub (.t 43) (oI 1)),gI 45 (.iadr 3 (.t 42) (.t 44)),gI 46 (.load true 3 (.t 45)),gM 47 0,gM 48 9,gI 49 (.iadr 3 (.t 47) (.t 48)),gI 50 (.load true 3 (.t 49)),gI 51 (.iadr 3 (.t 37) (.t 38)),gN (.store 3 (.t 51) (.t 46)),gI 52 (.iadr 3 (.t 39) (.t 41)),gN (.store 3 (.t 52) (.t 50))] (kP [0,1,2,3,8,9] [] [1000000])))
 (.reg false [gM 35 9,gI 36 (.bin .sub (.t 35) (oI 1)),gM 9 36] (kP [0,1,2,3,8,9] [] [1000000]))))))))
 (.reg false [gM 15 8,gI 16 (.bin .add (.t 15) (oI 1)),gM 8 16] (kP [0,1,2,3,8] [] [1000000])))))))
theorem fcms_insM : FsT Tryz.prog 114 Tryz.f114 C_insM [] := fcms_mk [aN [0,1,2,3,8] [] [1000000],aN [0,1,2,3,8,14] [] [1000000],aN [0,1,2,3,8,9] [] [1000000],aN [0,1,2,3,8,9,34] [] [1000000],aN [0,1,2,3,8,9] [] [1000000],aN [0,1,2,3,8,9] [] [1000000],aN [0,1,2,3,8] [] [1000000]] Tryz.func114 (by kernel_rfl)
def C_pdqM : AC := (.seq (.reg false [gI 10 (.mv (.v (.bool true)))] (kP [0,1,2,3,4,10] [] [1000000]))
 (.seq (.reg false [gI 11 (.mv (.v (.bool true)))] (kP [0,1,2,3,4,10,11] [] [1000000]))
 (.block 0 (.loop (.block 1 (.seq (.reg false [gM 21 2,gM 22 1,gI 23 (.bin .sub (.t 21) (.t 22)),gM 12 23] (kP [0,1,2,3,4,10,11,12] [] [1000000]))
 (.seq (.seq (.reg false [gM 24 12,gI 25 (.bin .leq (.t 24) (oI 12))] (kP [0,1,2,3,4,10,11,12,25] [] [1000000]))
 (.cond (.t 25)
 (.seq (.reg false [gM 26 0,gM 27 1,gM 28 2,gM 29 4,gI 30 (.callm (.f 114) [(.t 26),(.t 27),(.t 28),(.t 29)] ⟨[],[1000000],[],[1000000],[1000000]⟩)] (kP [] [] [1000000]))
 .ret)
 .skip))
 (.seq (.seq (.reg false [gM 31 3,gI 32 (.bin .eql (.t 31) (oI 0))] (kP [0,1,2,3,4,10,11,12,32] [] [1000000]))
 (.cond (.t 32)
 (.seq (.reg false [gM 33 0,gM 34 1,gM 35 2,gM 36 4,gI 37 (.call (.f 115) [(.t 33),(.t 34),(.t 35),(.t 36)])] (kP [] [] [1000000]))
 .ret)
 .skip))
 (.seq (.seq (.reg false [gM 38 10,gI 39 (.un .not (.t 38))] (kP [0,1,2,3,4,10,11,12,39] [] [1000000]))
 (.cond (.t 39)
 (.seq (.reg false [gM 40 0,gM 41 1,gM 42 2,gM 43 4,gI 44 (.call (.f 116) [(.t 40),(.t 41),(.t 42),(.t 43)])] (kP [0,1,2,3,4,10,11,12] [] [1000000]))
 (.reg false [gM 45 3,gI 46 (.bin .sub (.t 45) (oI 1)),gM 3 46] (kP [0,1,2,3,4,10,11,12] [] [1000000])))
 .skip))
 (.seq (.reg false [gM 48 0,gM 49 1,gM 50 2,gM 51 4,gI 52 (.call (.f 117) [(.t 48),(.t 49),(.t 50),(.t 51)]),gM 47 52,gI 53 (.extr (.t 47) 0),gI 54 (.extr (.t 47) 1),gM 13 53,gM 14 54] (kP [0,1,2,3,4,10,11,12,13,14] [] [1000000]))
 (.seq (.seq (.reg false [gM 55 14,gI 56 (.bin .eql (.t 55) (oI 2))] (kP [0,1,2,3,4,10,11,12,13,14,56] [] [1000000]))
 (.cond (.t 56)
 (.seq (.reg false [gM 57 0,gM 58 1,gM 59 2,gM 60 4,gI 61 (.call (.f 118) [(.t 57),(.t 58),(.t 59),(.t 60)])] (kP [0,1,2,3,4,10,11,12,13] [] [1000000]))
 (.seq (.reg false [gM 62 2,gI 63 (.bin .sub (.t 62) (oI 1)),gM 64 13,gM 65 1,gI 66 (.bin .sub (.t 64) (.t 65)),gI 67 (.bin .sub (.t 63) (.t 66)),gM 13 67] (kP [0,1,2,3,4,10,11,12,13] [] [1000000]))
 (.reg false [gI 14 (.mv (oI 1))] (kP [0,1,2,3,4,10,11,12,13,14] [] [1000000]))))
 .skip))
 (.seq (.seq (.reg false [gM 68 10,gM 69 68,gG 70 69 true (.mv (.t 11)),gI 71 (.pick (.t 69) (.t 70) (.v (.bool false))),gM 72 71,gG 73 72 true (.mv (.t 14)),gG 74 72 true (.bin .eql (.t 73) (oI 1)),gI 75 (.pick (.t 72) (.t 74) (.v (.bool false)))] (kP [0,1,2,3,4,10,11,12,13,75] [] [1000000]))
 (.cond (.t 75)
 (.seq (.reg false [gM 76 0,gM 77 1,gM 78 2,gM 79 4,gI 80 (.call (.f 119) [(.t 76),(.t 77),(.t 78),(.t 79)])] (kP [0,1,2,3,4,10,11,12,13,80] [] [1000000]))
 (.cond (.t 80)
 .ret
 .skip))
 .skip))
 (.seq (.seq (.reg true [gM 81 1,gI 82 (.bin .gtr (.t 81) (oI 0)),gM 83 82,gG 84 83 true (.mv (.t 4)),gG 85 83 true (.mv (.t 0)),gG 86 83 true (.mv (.t 1)),gG 87 83 true (.bin .sub (.t 86) (oI 1)),gG 88 83 true (.iadr 3 (.t 85) (.t 87)),gG 89 83 true (.load true 3 (.t 88)),gG 90 83 true (.mv (.t 0)),gG 91 83 true (.mv (.t 13)),gG 92 83 true (.iadr 3 (.t 90) (.t 91)),gG 93 83 true (.load true 3 (.t 92)),gG 94 83 true (.call (.t 84) [(.t 89),(.t 93)]),gG 95 83 true (.bin .lss (.t 94) (oI 0)),gG 96 83 true (.un .not (.t 95)),gI 97 (.pick (.t 83) (.t 96) (.v (.bool false)))] (kP [0,1,2,3,4,10,11,12,13,97] [] [1000000]))
 (.cond (.t 97)
 (.seq (.reg false [gM 98 0,gM 99 1,gM 100 2,gM 101 13,gM 102 4,gI 103 (.call (.f 120) [(.t 98),(.t 99),(.t 100),(.t 101),(.t 102)]),gM 15 103] (kP [0,2,3,4,10,11,15] [] [1000000]))
 (.seq (.reg false [gM 104 15,gM 1 104] (kP [0,1,2,3,4,10,11] [] [1000000]))
 (.exit 1)))
 .skip))
 (.seq (.reg false [gM 106 0,gM 107 1,gM 108 2,gM 109 13,gM 110 4,gI 111 (.call (.f 121) [(.t 106),(.t 107),(.t 108),(.t 109),(.t 110)]),gM 105 111,gI 112 (.extr (.t 105) 0),gI 113 (.extr (.t 105) 1),gM 16 112,gM 17 113] (kP [0,1,2,3,4,12,16,17] [] [1000000]))
 (.seq (.reg false [gM 114 17,gM 11 114] (kP [0,1,2,3,4,11,12,16] [] [1000000]))
 (.seq (.reg false [gM 115 16,gM 116 1,gI 117 (.bin .sub (.t 115) (.t 116)),gM 118 2,gM 119 16,gI 120 (.bin .sub (.t 118) (.t 119)),gM 18 117,gM 19 120] (kP [0,1,2,3,4,11,12,16,18,19] [] [1000000]))
 (.seq (.reg false [gM 121 12,gI 122 (.bin .quo (.t 121) (oI 8)),gM 20 122] (kP [0,1,2,3,4,11,16,18,19,20] [] [1000000]))
 (.seq (.reg false [gM 123 18,gM 124 19,gI 125 (.bin .lss (.t 123) (.t 124))] (kP [0,1,2,3,4,11,16,18,19,20,125] [] [1000000]))
 (.cond (.t 125)
 (.seq (.reg false [gM 126 18,gM 127 20,gI 128 (.bin .geq (.t 126) (.t 127)),gM 10 128] (kP [0,1,2,3,4,10,11,16] [] [1000000]))
 (.seq (.reg false [gM 129 0,gM 130 1,gM 131 16,gM 132 3,gM 133 4,gI 134 (.call (.f 83) [(.t 129),(.t 130),(.t 131),(.t 132),(.t 133)])] (kP [0,2,3,4,10,11,16] [] [1000000]))
 (.reg false [gM 135 16,gI 136 (.bin .add (.t 135) (oI 1)),gM 1 136] (kP [0,1,2,3,4,10,11] [] [1000000]))))
 (.seq (.reg false [gM 137 19,gM 138 20,gI 139 (.bin .geq (.t 137) (.t 138)),gM 10 139] (kP [0,1,2,3,4,10,11,16] [] [1000000]))
 (.seq (.reg false [gM 140 0,gM 141 16,gI 142 (.bin .add (.t 141) (oI 1)),gM 143 2,gM 144 3,gM 145 4,gI 146 (.call (.f 83) [(.t 140),(.t 142),(.t 143),(.t 144),(.t 145)])] (kP [0,1,3,4,10,11,16] [] [1000000]))
 (.reg false [gM 147 16,gM 2 147] (kP [0,1,2,3,4,10,11] [] [1000000])))))))))))))))))))))))
theorem fcms_pdqM : FsT Tryz.prog 83 Tryz.f83 C_pdqM [] := fcms_mk [aN [0,1,2,3,4,10] [] [1000000],aN [0,1,2,3,4,10,11] [] [1000000],aN [0,1,2,3,4,10,11,12] [] [1000000],aN [0,1,2,3,4,10,11,12,25] [] [1000000],⟨(kP [] [] [1000000]),[],[],[],[(30,⟨[],[1000000],[],[1000000],[1000000]⟩)]⟩,aN [0,1,2,3,4,10,11,12,32] [] [1000000],aN [] [] [1000000],aN [0,1,2,3,4,10,11,12,39] [] [1000000],aN [0,1,2,3,4,10,11,12] [] [1000000],aN [0,1,2,3,4,10,11,12] [] [1000000],aN [0,1,2,3,4,10,11,12,13,14] [] [1000000],aN [0,1,2,3,4,10,11,12,13,14,56] [] [1000000],aN [0,1,2,3,4,10,11,12,13] [] [1000000],aN [0,1,2,3,4,10,11,12,13] [] [1000000],aN [0,1,2,3,4,10,11,12,13,14] [] [1000000],aN [0,1,2,3,4,10,11,12,13,75] [] [1000000],aN [0,1,2,3,4,10,11,12,13,80] [] [1000000],aN [0,1,2,3,4,10,11,12,13,97] [] [1000000],aN [0,2,3,4,10,11,15] [] [1000000],aN [0,1,2,3,4,10,11] [] [1000000],aN [0,1,2,3,4,12,16,17] [] [1000000],aN [0,1,2,3,4,11,12,16] [] [1000000],aN [0,1,2,3,4,11,12,16,18,19] [] [1000000],aN [0,1,2,3,4,11,16,18,19,20] [] [1000000],aN [0,1,2,3,4,11,16,18,19,20,125] [] [1000000],aN [0,1,2,3,4,10,11,16] [] [1000000],aN [0,2,3,4,10,11,16] [] [1000000],aN [0,1,2,3,4,10,11] [] [1000000],aN [0,1,2,3,4,10,11,16] [] [1000000],aN [0,1,3,4,10,11,16] [] [1000000],aN [0,1,2,3,4,10,11] [] [1000000]] Tryz.func83 (by kernel_rfl)
def C_srtM : AC := (.seq (.reg false [gM 5 0,gI 6 (.len (.t 5)),gM 4 6] (kP [0,1,4] [] [1000000]))
 (.reg false [gM 7 0,gM 8 4,gM 9 4,gI 10 (.conv .u64 (.t 9)),gI 11 (.call (.f 84) [(.t 10)]),gM 12 1,gI 13 (.callm (.f 83) [(.t 7),(oI 0),(.t 8),(.t 11),(.t 12)] ⟨[],[1000000],[],[1000000],[1000000]⟩)] (kP [] [] [1000000])))
theorem fcms_srtM : FsT Tryz.prog 34 Tryz.f34 C_srtM [] := fcms_mk [aN [0,1,4] [] [1000000],⟨(kP [] [] [1000000]),[],[],[],[(13,⟨[],[1000000],[],[1000000],[1000000]⟩)]⟩] Tryz.func34 (by kernel_rfl)
def C_bLenM : AC := (.seq (.reg false [gI 2 (.mv (oI 0))] (kP [0] [] []))
 (.seq (.cond (.v (.bool false))
 (.seq (.reg false [gM 3 0,gI 4 (.conv .u32 (.t 3)),gI 5 (.call (.f 122) [(.t 4)]),gM 2 5] (kP [2] [] []))
 .ret)
 .skip)
 (.seq (.reg false [gM 6 0,gI 7 (.call (.f 123) [(.t 6)]),gM 2 7] (kP [2] [] []))
 .ret)))
theorem fc_bLenM : FcT Tryz.prog 84 Tryz.f84 C_bLenM [.t 2] := fc_mk [aN [0] [] [],aN [2] [] [],aN [2] [] []] Tryz.func84 (by kernel_rfl)
def C_bLenN : AC := (.seq (.reg false [gI 2 (.mv (oI 0))] (kP [0,2] [] []))
 (.seq (.seq (.reg false [gM 3 0,gI 4 (.bin .geq (.t 3) (.v (.int .u64 (4294967296))))] (kP [0,2,4] [] []))
 (.cond (.t 4)
 (.seq (.reg false [gM 5 0,gI 6 (.bin .shr (.t 5) (.v (.int .u64 (32)))),gM 0 6] (kP [0] [] []))
 (.reg false [gI 2 (.mv (oI 32))] (kP [0,2] [] [])))
 .skip))
 (.seq (.seq (.reg false [gM 7 0,gI 8 (.bin .geq (.t 7) (.v (.int .u64 (65536))))] (kP [0,2,8] [] []))
 (.cond (.t 8)
 (.seq (.reg false [gM 9 0,gI 10 (.bin .shr (.t 9) (.v (.int .u64 (16)))),gM 0 10] (kP [0,2] [] []))
 (.reg false [gM 11 2,gI 12 (.bin .add (.t 11) (oI 16)),gM 2 12] (kP [0,2] [] [])))
 .skip))
 (.seq (.seq (.reg false [gM 13 0,gI 14 (.bin .geq (.t 13) (.v (.int .u64 (256))))] (kP [0,2,14] [] []))
 (.cond (.t 14)
 (.seq (.reg false [gM 15 0,gI 16 (.bin .shr (.t 15) (.v (.int .u64 (8)))),gM 0 16] (kP [0,2] [] []))
 (.reg false [gM 17 2,gI 18 (.bin .add (.t 17) (oI 8)),gM 2 18] (kP [0,2] [] [])))
 .skip))
 (.seq (.reg false [gM 19 2,gM 20 0,gI 21 (.conv .u8 (.t 20)),gI 22 (.idx (.v (.string (ByteArray.mk #[0,1,2,2,3,3,3,3,4,4,4,4,4,4,4,4,5,5,5,5,5,5,5,5,5,5,5,5,5,5,5,5,6,6,6,6,6,6,6,6,6,6,6,6,6,6,6,6,6,6,6,6,6,6,6,6,6,6,6,6,6,6,6,6,7,7,7,7,7,7,7,7,7,7,7,7,7,7,7,7,7,7,7,7,7,7,7,7,7,7,7,7,7,7,7,7,7,7,7,7,7,7,7,7,7,7,7,7,7,7,7,7,7,7,7,7,7,7,7,7,7,7,7,7,7,7,7,7,8,8,8,8,8,8,8,8,8,8,8,8,8,8,8,8,8,8,8,8,8,8,8,8,8,8,8,8,8,8,8,8,8,8,8,8,8,8,8,8,8,8,8,8,8,8,8,8,8,8,8,8,8,8,8,8,8,8,8,8,8,8,8,8,8,8,8,8,8,8,8,8,8,8,8,8,8,8,8,8,8,8,8,8,8,8,8,8,8,8,8,8,8,8,8,8,8,8,8,8,8,8,8,8,8,8,8,8,8,8,8,8,8,8,8,8,8,8,8,8,8,8,8,8,8,8,8,8]))) (.t 21)),gI 23 (.conv .i64 (.t 22)),gI 24 (.bin .add (.t 19) (.t 23)),gM 2 24] (kP [2] [] []))
 .ret)))))
theorem fc_bLenN : FcT Tryz.prog 123 Tryz.f123 C_bLenN [.t 2] := fc_mk [aN [0,2] [] [],aN [0,2,4] [] [],aN [0] [] [],aN [0,2] [] [],aN [0,2,8] [] [],aN [0,2] [] [],aN [0,2] [] [],aN [0,2,14] [] [],aN [0,2] [] [],aN [0,2] [] [],aN [2] [] []] Tryz.func123 (by kernel_rfl)
/-! ### insertion sort of transfers -/
def swT (l : List Trf) (j : Nat) : List Trf := (l.set j (l.getD (j - 1) default)).set (j - 1) (l.getD j default)
def tinJ (c : Trf → Trf → Int) : Nat → List Trf → List Trf
 | 0, l => l
 | j + 1, l => if c (l.getD (j + 1) default) (l.getD j default) < 0 then tinJ c j (swT l (j + 1)) else l
def tinI (c : Trf → Trf → Int) : Nat → Nat → List Trf → List Trf
 | 0, _, l => l
 | n + 1, i, l => tinI c n (i + 1) (tinJ c i l)
def tinF (c : Trf → Trf → Int) (l : List Trf) : List Trf := tinI c (l.length - 1) 1 l
theorem swT_len (l : List Trf) (j : Nat) : (swT l j).length = l.length := by simp [swT]
theorem tinJ_len (c : Trf → Trf → Int) : ∀ (j : Nat) (l : List Trf), (tinJ c j l).length = l.length
 | 0, _ => rfl
 | j + 1, l => by
  rw [tinJ]
  split
  ·rw [tinJ_len c j, swT_len]
  ·rfl
theorem tinI_len (c : Trf → Trf → Int) : ∀ (n i : Nat) (l : List Trf), (tinI c n i l).length = l.length
 | 0, _, _ => rfl
 | n + 1, i, l => by rw [tinI, tinI_len c n, tinJ_len]
theorem getD_all {p : Trf → Prop} (hd : p default) {l : List Trf} (h : ∀ x ∈ l, p x) (i : Nat) : p (l.getD i default) := by
 rw [List.getD_eq_getElem?_getD]
 cases hi : l[i]? with
 | none => exact hd
 | some x => exact h x (List.mem_of_getElem? hi)
theorem swT_all {p : Trf → Prop} (hd : p default) {l : List Trf} (h : ∀ x ∈ l, p x) (j : Nat) : ∀ x ∈ swT l j, p x := fun x hx => by
 unfold swT at hx
 rcases List.mem_or_eq_of_mem_set hx with hx | rfl
 ·rcases List.mem_or_eq_of_mem_set hx with hx | rfl
  ·exact h x hx
  ·exact getD_all hd h _
 ·exact getD_all hd h _
theorem tinJ_all {p : Trf → Prop} (hd : p default) (c : Trf → Trf → Int) : ∀ (j : Nat) (l : List Trf), (∀ x ∈ l, p x) → ∀ x ∈ tinJ c j l, p x
 | 0, _, h => h
 | j + 1, l, h => by
  rw [tinJ]
  split
  ·exact tinJ_all hd c j _ (swT_all hd h _)
  ·exact h
theorem tinI_all {p : Trf → Prop} (hd : p default) (c : Trf → Trf → Int) : ∀ (n i : Nat) (l : List Trf), (∀ x ∈ l, p x) → ∀ x ∈ tinI c n i l, p x
 | 0, _, _, h => h
 | n + 1, i, l, h => by rw [tinI]; exact tinI_all hd c n _ _ (tinJ_all hd c i l h)
def mnyF (a b : Trf) : Int := if ltS a.frm b.frm then -1 else 1
theorem mnyC_fc (a b : Trf) : FC Tryz.prog 35 none [.ag (trC a), .ag (trC b)] (fun _ r => r = iv (mnyF a b)) := by
 refine fc_mnyC (by simp +arith) ?_
 unfold C_mnyC mnyF
 simp only [trC_eq]
 by_cases h : ltS a.frm b.frm
 ·rw [if_pos h]
  simp (maxSteps := 1000000) (disch := (first | omega | assumption)) only [go_sem]
 ·rw [if_neg h]
  simp (maxSteps := 1000000) (disch := (first | omega | assumption)) only [go_sem]
def tmSt (n : Int) (cl : FuncId) (i : Int) (cur : List Trf) : AS := ⟨tabV [(0, .one (.ow 1000000 0)), (1, iv 0), (2, iv n), (3, .one (.fn cl [])), (8, iv i)], tabO [], tabO [(1000000, trRow cur)]⟩
def tjSt (n : Int) (cl : FuncId) (i : Int) (j : Int) (cur : List Trf) : AS := ⟨tabV [(0, .one (.ow 1000000 0)), (1, iv 0), (2, iv n), (3, .one (.fn cl [])), (8, iv i), (9, iv j)], tabO [], tabO [(1000000, trRow cur)]⟩
theorem getE_trC (l : List Trf) (i : Nat) (h : i < l.length) : (l.map trC)[i]? = some (trC (l.getD i default)) := getE_map_in trC l i h
theorem datE_trm (l : List Trf) : datE (l.map trC) = l.map trC := datE_map (fun _ => rfl) l
attribute [local go_sem] getE_set_oth len_setC datE_trm
set_option maxHeartbeats 4000000 in
theorem insM_fcm (l : List Trf) (hl : l.length ≤ 1000000) :
  FCMS Tryz.prog 114 [1000000] ⟨[], [(1000000, trRow l)]⟩ [.one (.ow 1000000 0), iv 0, iv l.length, .one (.fn 35 [])] (fun H r => H = ⟨[], [(1000000, trRow (tinF mnyF l))]⟩ ∧ r = .tu []) := by
 refine fcms_insM (K := ⟨[], [], [1000000]⟩) (by simp +arith) (by simp [XK]) (by simp [XK]) ?_
 unfold C_insM
 generalize hR : tinF mnyF l = R
 have hRl : R.length = l.length := by rw [← hR]; exact tinI_len _ _ _ _
 generalize hn : l.length = n at *
 simp (maxSteps := 1000000) (disch := omega) only [go_sem]
 refine ex_loop2 (tmSt n 35) (fun i cur => 1 ≤ i ∧ cur.length = n ∧ tinI mnyF (n - i.toNat) i.toNat cur = R) (fun i _ => (n - i).toNat) 1 l ⟨by omega, hn, by rw [← hR]; unfold tinF; rw [hn]; rfl⟩ rfl ?_
 rintro i cur ⟨g1, g2, g3⟩
 unfold tmSt
 by_cases hi : i < n
 ·have e2 : (i + 1).toNat = i.toNat + 1 := by omega
  obtain ⟨q, hq⟩ : ∃ q, n - i.toNat = q + 1 := ⟨n - i.toNat - 1, by omega⟩
  rw [hq, tinI, ← e2, show q = n - (i + 1).toNat by omega] at g3
  generalize hT : tinJ mnyF i.toNat cur = T at g3
  have hTl : T.length = n := by rw [← hT, tinJ_len]; exact g2
  simp (maxSteps := 1000000) (disch := omega) only [go_sem]
  refine ex_loop2 (tjSt n 35 i) (fun j cur => 0 ≤ j ∧ j ≤ i ∧ cur.length = n ∧ tinJ mnyF j.toNat cur = T) (fun j _ => j.toNat) i cur ⟨by omega, by omega, g2, hT⟩ rfl ?_
  rintro j cur ⟨k1, k2, k3, k4⟩
  unfold tjSt
  by_cases hj : 0 < j
  ·obtain ⟨w, hw⟩ : ∃ w, j.toNat = w + 1 := ⟨j.toNat - 1, by omega⟩
   have hw2 : (j - 1).toNat = w := by omega
   have em := getD_map_at trC cur j [] (by omega) (by omega)
   have em2 := getD_map_at trC cur (j - 1) [] (by omega) (by omega)
   have eo := getE_trC cur j.toNat (by omega)
   have eo2 := getE_trC cur (j - 1).toNat (by omega)
   rw [hw, tinJ, ← hw, ← hw2] at k4
   have hc := mnyC_fc (cur.getD j.toNat default) (cur.getD (j - 1).toNat default)
   simp only [trC_eq] at hc
   by_cases c1 : mnyF (cur.getD j.toNat default) (cur.getD (j - 1).toNat default) < 0
   ·rw [if_pos c1] at k4
    generalize mnyF (cur.getD j.toNat default) (cur.getD (j - 1).toNat default) = C at *
    simp (maxSteps := 1000000) (disch := omega) only [go_sem]
    refine CALL_det hc (.inl rfl) ?_
    simp (maxSteps := 1000000) (disch := omega) only [go_sem]
    exact ⟨j - 1, swT cur j.toNat, by simp only [tjSt, swT, trRow, List.map_set, trC_eq, hw2, hw, Nat.add_sub_cancel], ⟨by omega, by omega, by rw [swT_len]; exact k3, k4⟩, by omega⟩
   ·rw [if_neg c1] at k4
    subst k4
    generalize mnyF (cur.getD j.toNat default) (cur.getD (j - 1).toNat default) = C at *
    simp (maxSteps := 1000000) (disch := omega) only [go_sem]
    refine CALL_det hc (.inl rfl) ?_
    simp (maxSteps := 1000000) (disch := omega) only [go_sem]
    exact ⟨i + 1, cur, rfl, ⟨by omega, k3, g3⟩, by omega⟩
  ·have hj0 : j = 0 := by omega
   subst hj0
   have k5 : cur = T := k4
   subst k5
   simp (maxSteps := 1000000) (disch := omega) only [go_sem]
   exact ⟨i + 1, cur, rfl, ⟨by omega, k3, g3⟩, by omega⟩
 ·rw [show n - i.toNat = 0 by omega, tinI] at g3
  subst g3
  simp (maxSteps := 1000000) (disch := omega) only [go_sem]
set_option maxRecDepth 20000 in
theorem bLenN_fc (n : Int) (h : 0 ≤ n ∧ n ≤ 12) : ∃ v : Int, FC Tryz.prog 123 none [.one (.g (.int .u64 n))] (fun _ r => r = iv v) := by
 obtain ⟨h1, h2⟩ := h
 refine Exists.imp (fun v => fc_bLenN (by simp +arith)) ?_
 unfold C_bLenN
 generalize hb : ByteArray.mk _ = tab
 have hs : tab.size = 256 := by subst hb; rfl
 clear hb
 apply Exists.intro
 simp (maxSteps := 1000000) (disch := omega) only [go_sem]
 rw [IntWalk.u8_in n ⟨h1, by omega⟩, hs]
 exact ⟨by omega, rfl⟩
theorem bLenM_fc (n : Int) (h : 0 ≤ n ∧ n ≤ 12) : ∃ v : Int, FC Tryz.prog 84 none [.one (.g (.int .u64 n))] (fun _ r => r = iv v) := by
 obtain ⟨v, hv⟩ := bLenN_fc n h
 refine ⟨v, fc_bLenM (by simp +arith) ?_⟩
 unfold C_bLenM
 simp (maxSteps := 1000000) (disch := omega) only [go_sem]
 refine CALL_det hv (.inl rfl) ?_
 simp (maxSteps := 1000000) (disch := omega) only [go_sem]
theorem pdqM_fcm (d : List Trf) (hlen : d.length ≤ 12) (w : Val) :
  FCMS Tryz.prog 83 [1000000] ⟨[], [(1000000, trRow d)]⟩ [.one (.ow 1000000 0), iv 0, iv d.length, w, .one (.fn 35 [])] (fun H r => H = ⟨[], [(1000000, trRow (tinF mnyF d))]⟩ ∧ r = .tu []) := by
 refine fcms_pdqM (K := ⟨[], [], [1000000]⟩) (by simp +arith) (by simp [XK]) (by simp [XK]) ?_
 have hi := insM_fcm d (by omega)
 unfold C_pdqM
 simp (maxSteps := 1000000) (disch := omega) only [go_sem]
 refine ex_rnd 1 ?_
 simp (maxSteps := 1000000) (disch := omega) only [go_sem]
 refine ⟨rfl, CALLM_det hi ⟨rfl, rfl⟩ ?_⟩
 simp (maxSteps := 1000000) (disch := omega) only [go_sem]
theorem srtM_fcm (d : List Trf) (hlen : d.length ≤ 12) :
  FCMS Tryz.prog 34 [1000000] ⟨[], [(1000000, trRow d)]⟩ [.one (.ow 1000000 0), .one (.fn 35 [])] (fun H r => H = ⟨[], [(1000000, trRow (tinF mnyF d))]⟩ ∧ r = .tu []) := by
 refine fcms_srtM (K := ⟨[], [], [1000000]⟩) (by simp +arith) (by simp [XK]) (by simp [XK]) ?_
 unfold C_srtM
 obtain ⟨v, hv⟩ := bLenM_fc d.length (by omega)
 simp (maxSteps := 1000000) (disch := omega) only [go_sem]
 refine CALL_det hv (.inl rfl) ?_
 simp (maxSteps := 1000000) (disch := omega) only [go_sem]
 refine ⟨rfl, CALLM_det (pdqM_fcm d hlen (iv v)) ⟨rfl, rfl⟩ ?_⟩
 simp (maxSteps := 1000000) (disch := omega) only [go_sem]
end Go.Proofs.YtodmofhehabmgaaGreatDoor
/-
 Transfers of many scales and a least share: one from one stream.
-/
namespace Go.Proofs.YtodmofhehabmgaaGreatDoor
open Go Go.Ai
set_option linter.unusedSimpArgs false
set_option linter.unusedVariables false
set_option maxHeartbeats 4000000
def C_mny : AC := (.seq (.reg false [gI 2 (.mv (.v (.slice none 0 0)))] (kP [0] [0] []))
 (.seq (.seq (.reg false [gI 3 (.mv (.v (.slice none 0 0)))] (kP [0,3] [0] []))
 (.own 3 54 3))
 (.seq (.seq (.reg false [gI 6 (.mv (oI 0))] (kP [0,3,6] [0] [3]))
 (.block 0 (.loop (.seq (.reg false [gI 7 (.bin .lss (.t 6) (oI 3))] (kP [0,3,6,7] [0] [3]))
 (.seq (.cond (.t 7)
 .skip
 (.exit 0))
 (.seq (.block 1 (.seq (.reg false [gM 8 6,gM 4 8] (kP [0,3,4,6] [0] [3]))
 (.seq (.reg false [gM 9 4,gI 10 (.bin .add (.t 9) (oI 1)),gI 11 (.call (.f 33) [(.t 10)]),gI 12 (.bin .add (.v (.string (ByteArray.mk #[99]))) (.t 11)),gM 5 12] (kP [0,3,4,5,6] [0] [3]))
 (.seq (.reg false [gM 13 3,gM 14 4,gI 15 (.call (.f 33) [(.t 14)]),gI 16 (.bin .add (.v (.string (ByteArray.mk #[99]))) (.t 15)),gM 17 5,gM 18 0,gI 19 (.bslice 1 3 [(oI 99991),(oI 999983),(oI 7)]),gI 20 (.callx (.f 30) [(.t 18),(.t 19)]),gI 21 (.build [(.string (ByteArray.mk #[])),(.string (ByteArray.mk #[])),(.int .i64 (0))] [(0,1,(.t 16)),(1,1,(.t 17)),(2,1,(.t 20))]),gI 22 (.bslice 3 1 [(.t 21)]),gI 23 (.append 54 3 40 (.t 13) (.t 22)),gM 3 23] (kP [0,3,4,5,6] [0] [3]))
 (.reg false [gM 24 3,gM 25 4,gI 26 (.call (.f 33) [(.t 25)]),gI 27 (.bin .add (.v (.string (ByteArray.mk #[100]))) (.t 26)),gM 28 5,gM 29 0,gI 30 (.bslice 1 2 [(oI 1),(oI 2)]),gI 31 (.callx (.f 30) [(.t 29),(.t 30)]),gI 32 (.build [(.string (ByteArray.mk #[])),(.string (ByteArray.mk #[])),(.int .i64 (0))] [(0,1,(.t 27)),(1,1,(.t 28)),(2,1,(.t 31))]),gI 33 (.bslice 3 1 [(.t 32)]),gI 34 (.append 54 3 40 (.t 24) (.t 33)),gM 3 34] (kP [0,3,6] [0] [3]))))))
 (.reg false [gI 35 (.bin .add (.t 6) (oI 1)),gM 6 35] (kP [0,3,6] [0] [3]))))))))
 (.seq (.reg false [gM 36 3,gI 37 (.callm (.f 34) [(.t 36),(.f 35)] ⟨[],[3],[],[3],[3]⟩)] (kP [3] [0] []))
 (.seq (.reg false [gM 38 3,gM 2 38] (kP [2] [0] []))
 .ret)))))
theorem fc_mny : FcT Tryz.prog 8 Tryz.f8 C_mny [.t 2] := fc_mk [aN [0] [0] [],⟨(kP [0,3] [0] []),[(3,54,3)],[],[],[]⟩,aN [0,3,6] [0] [3],aN [0,3,6,7] [0] [3],aN [0,3,4,6] [0] [3],aN [0,3,4,5,6] [0] [3],aN [0,3,4,5,6] [0] [3],aN [0,3,6] [0] [3],aN [0,3,6] [0] [3],⟨(kP [3] [0] []),[],[],[],[(37,⟨[],[3],[],[3],[3]⟩)]⟩,aN [2] [0] []] Tryz.func8 (by kernel_rfl)
def C_ashare : AC := (.seq (.reg false [gI 2 (.alloc [(.int .i64 (0)),(.int .i64 (0))])] (kP [0,2] [0,2] []))
 (.seq (.reg false [gI 4 (.build [(.int .i64 (0)),(.int .i64 (0))] [(0,1,(oI 0)),(1,1,(oI 1))]),gI 5 (.build [(.int .i64 (0)),(.int .i64 (0))] [(0,1,(oI 1)),(1,1,(oI 4))]),gI 6 (.build [(.int .i64 (0)),(.int .i64 (0))] [(0,1,(oI 1)),(1,1,(oI 2))]),gI 7 (.build [(.int .i64 (0)),(.int .i64 (0))] [(0,1,(oI 3)),(1,1,(oI 4))]),gI 8 (.build [(.int .i64 (0)),(.int .i64 (0))] [(0,1,(oI 1)),(1,1,(oI 1))]),gI 9 (.bslice 2 5 [(.t 4),(.t 5),(.t 6),(.t 7),(.t 8)]),gM 10 0,gI 11 (.callx (.f 31) [(.t 10),(oI 5)]),gI 12 (.iadr 2 (.t 9) (.t 11)),gI 13 (.load true 2 (.t 12)),gI 3 (.alloc [(.int .i64 (0)),(.int .i64 (0))]),gN (.store 2 (.t 3) (.t 13))] (kP [0,2,3] [0,2,3] []))
 (.seq (.seq (.reg false [gM 14 0,gI 15 (.callx (.f 7) [(.t 14),(oI 10)])] (kP [0,2,3,15] [0,2,3] []))
 (.cond (.t 15)
 (.reg false [gI 16 (.build [(.int .i64 (0)),(.int .i64 (0))] [(0,1,(oI 2)),(1,1,(oI 4))]),gI 17 (.build [(.int .i64 (0)),(.int .i64 (0))] [(0,1,(oI 1)),(1,1,(oI 0))]),gI 18 (.build [(.int .i64 (0)),(.int .i64 (0))] [(0,1,(oI (-1))),(1,1,(oI 2))]),gI 19 (.build [(.int .i64 (0)),(.int .i64 (0))] [(0,1,(oI 3)),(1,1,(oI 2))]),gI 20 (.build [(.int .i64 (0)),(.int .i64 (0))] [(0,1,(oI 1)),(1,1,(oI 1000001))]),gI 21 (.build [(.int .i64 (0)),(.int .i64 (0))] [(0,1,(oI (-9223372036854775808))),(1,1,(oI 3))]),gI 22 (.build [(.int .i64 (0)),(.int .i64 (0))] [(0,1,(oI (-9223372036854775808))),(1,1,(oI 2))]),gI 23 (.bslice 2 7 [(.t 16),(.t 17),(.t 18),(.t 19),(.t 20),(.t 21),(.t 22)]),gM 24 0,gI 25 (.callx (.f 31) [(.t 24),(oI 7)]),gI 26 (.iadr 2 (.t 23) (.t 25)),gI 27 (.load true 2 (.t 26)),gN (.store 2 (.t 3) (.t 27))] (kP [2,3] [0,2,3] []))
 .skip))
 (.seq (.reg false [gI 28 (.load true 2 (.t 3)),gN (.store 2 (.t 2) (.t 28))] (kP [2] [0,2] []))
 .ret))))
theorem fc_ashare : FcT Tryz.prog 6 Tryz.f6 C_ashare [.cell 2 true 2] := fc_mk [aN [0,2] [0,2] [],aN [0,2,3] [0,2,3] [],aN [0,2,3,15] [0,2,3] [],aN [2,3] [0,2,3] [],aN [2] [0,2] []] Tryz.func6 (by kernel_rfl)
section
variable {P : Program} {Y : Type} {s : AS} {kp : Option Keep} {l : List GI}
theorem exM {k : Y → List KI} {B : Y → Prop} {Q : Y → AX → AS → Prop} {f : FuncId} {S0 : List Nat} {H0 X0 H : Hp} {Y0 : Val} {args0 vargs : List Val} {m : CAnn} {d : Option Nat} (X : Hp) (Yv : Val) (p q : Nat → Nat) (hp : ∀ k, p (p k) = k) (hq : ∀ k, q (q k) = k) (hf : FCMS P f S0 H0 args0 (fun H' r' => H' = X0 ∧ r' = Y0)) (hna : ∀ x ∈ args0, ∀ xs, x ≠ .tu xs)
  (hS : S0.map q = m.sts) (hH : H0.rn p q = H) (ha : args0.map (rnV p q) = vargs) (hX : X0.rn p q = X) (hY : rnV p q Y0 = Yv) (hk : X.bs.map (·.1) = m.obs ∧ X.rs.map (·.1) = m.ors) (hb : H0.bs.all (fun x => bldK x.1 == bldK (p x.1)) = true) (ho : okM s m = true) (h : ∃ y, B y ∧ rg P l kp (k y) (Q y) ((s.after m X).put d (s.backV m Yv))) : ∃ y, B y ∧ okM s m = true ∧ CALLM P f H vargs m d l kp (k y) (Q y) s := by
 obtain ⟨y, hB, h⟩ := h
 exact ⟨y, hB, ho, CALLM_rnES X Yv p q hp hq hf hna hS hH ha hX hY hk h (hb := hb)⟩
end
attribute [local go_sem] datE_trm
structure MnX where
 i : Int
 q : Int
 l : List Trf
def mnSt (L : List Int) (x : MnX) : AS := ⟨tabV [(0, .one (.bx 0 0)), (3, .one (.ow 3 0)), (6, iv x.i)], tabO [(0, strm L x.q)], tabO [(3, trRow x.l)]⟩
theorem sm_def : (default : Trf).sm := ⟨Nat.zero_le _, Nat.zero_le _⟩
theorem itoa_sz {n : Int} (h : 0 ≤ n ∧ n ≤ 10) : (itoaB n).size ≤ 16 := (itB_wd (n := n) (by unfold big15; omega)).2.2.2
theorem cap_sz (c : UInt8) (b : ByteArray) : (ByteArray.mk #[c] ++ b).size = 1 + b.size := by rw [ByteArray.size_append]; rfl
set_option maxHeartbeats 12000000 in
theorem mny_det : GenD Tryz.prog 8 [] 100 (fun r => ∃ l : List Trf, l.length ≤ 13 ∧ (∀ x ∈ l, x.sm) ∧ r = trs true l) := by
 refine genD_of (fun L p R' h => fc_mny (xt := some (strm L p)) (args := []) (R := R') (by simp +arith) h) ?_
 intro L p hL hl h0 hp
 unfold C_mny strm
 simp (maxSteps := 1000000) (disch := omega) only [go_sem]
 refine loopD (mnSt L) (fun x => 0 ≤ x.i ∧ x.i ≤ 3 ∧ x.l.length = 2 * x.i ∧ p ≤ x.q ∧ x.q ≤ p + 2 * x.i ∧ ∀ y ∈ x.l, y.sm) (fun x => (3 - x.i).toNat) ⟨0, p, []⟩ ⟨by simp, by simp, by simp, by simp, by simp, by simp⟩ rfl ?_
 rintro G ⟨i, q, l⟩ ⟨g1, g2, g3, g4, g5, g6⟩ IH
 simp only at g1 g2 g3 g4 g5 g6
 unfold mnSt strm
 by_cases hi : i < 3
 ·have z1 := itoa_sz (n := i) (by omega)
  have h99 : (#[(99 : UInt8)]).size = 1 := rfl
  have h100 : (#[(100 : UInt8)]).size = 1 := rfl
  have z2 := itoa_sz (n := i + 1) (by omega)
  have c1 := itoa_fc (i + 1) ⟨by omega, by omega⟩
  have c2 := itoa_fc i ⟨by omega, by omega⟩
  generalize itoaB i = si at *
  generalize itoaB (i + 1) = sj at *
  simp (maxSteps := 1000000) (disch := omega) only [go_sem]
  refine exC c1 (.inl rfl) ?_
  simp (maxSteps := 1000000) (disch := omega) only [go_sem]
  refine exC c2 (.inl rfl) ?_
  simp (maxSteps := 1000000) (disch := omega) only [go_sem]
  obtain ⟨⟨pb, rb⟩, ⟨hab, hbb, zb, kb, rfl⟩, hfb⟩ := (pick_det false [99991, 999983, 7] (by simp) (by simp)) L q hL hl (by omega) (by omega)
  simp only at hab hbb hfb
  refine exX hfb rfl rfl ?_
  unfold strm
  simp (maxSteps := 1000000) (disch := omega) only [go_sem]
  refine exC c2 (.inl rfl) ?_
  simp (maxSteps := 1000000) (disch := omega) only [go_sem]
  obtain ⟨⟨pc, rc⟩, ⟨hac, hbc, zc, kc, rfl⟩, hfc⟩ := (pick_det false [1, 2] (by simp) (by simp)) L pb hL hl (by omega) (by omega)
  simp only at hac hbc hfc
  refine exX hfc rfl rfl ?_
  unfold strm
  simp (maxSteps := 1000000) (disch := omega) only [go_sem]
  obtain ⟨y, hB, hG⟩ := IH ⟨i + 1, pc, l ++ [⟨ByteArray.mk #[99] ++ si, ByteArray.mk #[99] ++ sj, zb⟩, ⟨ByteArray.mk #[100] ++ si, ByteArray.mk #[99] ++ sj, zc⟩]⟩ ⟨by simp only; omega, by simp only; omega, by simp; omega, by simp only; omega, by simp only; omega, fun y hy => by
   simp only [List.mem_append, List.mem_cons, List.not_mem_nil, or_false] at hy
   rcases hy with hy | rfl | rfl
   ·exact g6 y hy
   ·exact ⟨by simp only [cap_sz]; omega, by simp only [cap_sz]; omega⟩
   ·exact ⟨by simp only [cap_sz]; omega, by simp only [cap_sz]; omega⟩⟩ (by simp only; omega)
  exact ⟨y, hB, ⟨by simp; omega, by simp; omega⟩, _, by simp [mnSt, strm, trRow, trC_eq], by simp only; omega, hG⟩
 ·clear IH
  have hl6 : l.length = 6 := by omega
  have hT : (tinF mnyF l).length = 6 := by unfold tinF; rw [tinI_len]; exact hl6
  have hTs : ∀ x ∈ tinF mnyF l, x.sm := tinI_all sm_def _ _ _ l g6
  have hs := srtM_fcm l (by omega)
  generalize tinF mnyF l = T at *
  simp (maxSteps := 1000000) (disch := omega) only [go_sem]
  refine exM ⟨[], [(3, trRow T)]⟩ (.tu []) (fun k => k) (Go.Ai.swp 3 1000000) (fun _ => rfl) (Go.Ai.swp_swp 3 1000000) hs (by simp) rfl rfl rfl rfl rfl ⟨rfl, rfl⟩ rfl rfl ?_
  simp (maxSteps := 1000000) (disch := omega) only [go_sem]
  exact ⟨(q, _), ⟨by simp only; omega, by simp only; omega, T, by omega, hTs, rfl⟩, rfl, rfl⟩
/-! ### a least share -/
def prA5 : List (Int × Int) := [(0, 1), (1, 4), (1, 2), (3, 4), (1, 1)]
def prB7 : List (Int × Int) := [(2, 4), (1, 0), (-1, 2), (3, 2), (1, 1000001), (-9223372036854775808, 3), (-9223372036854775808, 2)]
theorem prA5_eq : ([[.g (.int .i64 0), .g (.int .i64 1)], [.g (.int .i64 1), .g (.int .i64 4)], [.g (.int .i64 1), .g (.int .i64 2)], [.g (.int .i64 3), .g (.int .i64 4)], [.g (.int .i64 1), .g (.int .i64 1)]] : List (List Cel)) = prA5.map frC := (rfl)
theorem prB7_eq : ([[.g (.int .i64 2), .g (.int .i64 4)], [.g (.int .i64 1), .g (.int .i64 0)], [.g (.int .i64 (-1)), .g (.int .i64 2)], [.g (.int .i64 3), .g (.int .i64 2)], [.g (.int .i64 1), .g (.int .i64 1000001)], [.g (.int .i64 (-9223372036854775808)), .g (.int .i64 3)], [.g (.int .i64 (-9223372036854775808)), .g (.int .i64 2)]] : List (List Cel)) = prB7.map frC := (rfl)
def pr64 (x : Int × Int) : Bool := decide (-9223372036854775808 ≤ x.1 ∧ x.1 ≤ 9223372036854775807) && decide (-9223372036854775808 ≤ x.2 ∧ x.2 ≤ 9223372036854775807)
theorem pr64_ok {x : Int × Int} (h : pr64 x = true) : I64 x.1 ∧ I64 x.2 := by
 unfold pr64 at h
 simp only [Bool.and_eq_true, decide_eq_true_eq] at h
 exact h
theorem prA5_ok : ∀ x ∈ prA5, pr64 x = true := fun x hx => List.all_eq_true.1 (show prA5.all pr64 = true by kernel_rfl) x hx
theorem prB7_ok : ∀ x ∈ prB7, pr64 x = true := fun x hx => List.all_eq_true.1 (show prB7.all pr64 = true by kernel_rfl) x hx
theorem prA5_len : prA5.length = 5 := rfl
theorem prB7_len : prB7.length = 7 := rfl
set_option maxHeartbeats 8000000 in
theorem ashare_det : GenD Tryz.prog 6 [] 10 (fun r => ∃ n d : Int, I64 n ∧ I64 d ∧ r = .ag [.g (.int .i64 n), .g (.int .i64 d)]) := by
 refine genD_of (fun L p R' h => fc_ashare (xt := some (strm L p)) (args := []) (R := R') (by simp +arith) h) ?_
 intro L p hL hl h0 hp
 unfold C_ashare strm
 simp (maxSteps := 1000000) (disch := omega) only [go_sem]
 obtain ⟨⟨pa, ra⟩, ⟨haa, hba, za, ka, na, rfl⟩, hfa⟩ := (next_det 5 (by omega) (by omega)) L p hL hl (by omega) (by omega)
 simp only at haa hba hfa
 refine exX hfa rfl rfl ?_
 unfold strm
 rw [prA5_eq]
 have l5 := prA5_len
 have ea := getD_map_at frC prA5 za [] ka (by omega)
 have oa := pr64_ok (prA5_ok _ (getD_mem prA5 za.toNat (by omega)))
 simp (maxSteps := 1000000) (disch := omega) only [go_sem]
 obtain ⟨⟨pb, rb⟩, ⟨hab, hbb, bb, rfl⟩, hfb⟩ := (flip_det 10 (by omega) (by omega)) L pa hL hl (by omega) (by omega)
 simp only at hab hbb hfb
 cases bb with
 | false =>
  refine exX hfb rfl rfl ?_
  unfold strm
  simp (maxSteps := 1000000) (disch := (first | omega | assumption)) only [go_sem]
  exact ⟨(pb, _), ⟨by simp only; omega, by simp only; omega, _, _, oa.1, oa.2, rfl⟩, rfl, rfl⟩
 | true =>
  refine exX hfb rfl rfl ?_
  unfold strm
  simp (maxSteps := 1000000) (disch := (first | omega | assumption)) only [go_sem]
  obtain ⟨⟨pc, rc⟩, ⟨hac, hbc, zc, kc, nc, rfl⟩, hfc⟩ := (next_det 7 (by omega) (by omega)) L pb hL hl (by omega) (by omega)
  simp only at hac hbc hfc
  refine exX hfc rfl rfl ?_
  unfold strm
  rw [prB7_eq]
  have l7 := prB7_len
  have ec := getD_map_at frC prB7 zc [] kc (by omega)
  have oc := pr64_ok (prB7_ok _ (getD_mem prB7 zc.toNat (by omega)))
  simp (maxSteps := 1000000) (disch := (first | omega | assumption)) only [go_sem]
  exact ⟨(pc, _), ⟨by simp only; omega, by simp only; omega, _, _, oc.1, oc.2, rfl⟩, rfl, rfl⟩
end Go.Proofs.YtodmofhehabmgaaGreatDoor

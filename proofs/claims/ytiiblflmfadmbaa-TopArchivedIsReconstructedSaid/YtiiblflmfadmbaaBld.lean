
/-
 A block's decoding: what was encoded is decoded.
-/
import Derived.Test.YtiiblflmfadmbaaBlk
namespace Go.Proofs.Ytiiblflmfadmbaa
open Go Go.Ai
set_option linter.unusedSimpArgs false
set_option linter.unusedVariables false
set_option maxHeartbeats 4000000
def C_decode : AC := (.seq (.reg false [gI 4 (.alloc [(.int .i64 (0)),(.int .i64 (0)),(.string (ByteArray.mk #[])),(.int .i64 (0)),(.int .i64 (0)),(.int .i64 (0)),(.bool false)]),gI 5 (.mv (.v (.slice none 0 0))),gI 6 (.mv (oI 0))] (kP [0,1,4] [4] []))
 (.seq (.block 0 (.seq (.reg false [gM 17 1,gM 18 0,gI 19 (.len (.t 18)),gI 20 (.bin .eql (.t 17) (.t 19)),gM 16 20] (kP [0,1,4,16] [4] []))
 (.cond (.t 16)
 (.seq (.seq (.reg false [gI 21 (.build [(.int .i64 (0)),(.int .i64 (0)),(.string (ByteArray.mk #[])),(.int .i64 (0)),(.int .i64 (0)),(.int .i64 (0)),(.bool false)] []),gN (.store 7 (.t 4) (.t 21)),gI 5 (.mv (.v (.slice none 0 0))),gI 6 (.mv (oI 8))] (kP [4,5,6] [4] []))
 (.ty 5 3))
 .ret)
 (.seq (.reg false [gM 23 0,gM 24 1,gI 25 (.iadr 1 (.t 23) (.t 24)),gI 26 (.load false 1 (.t 25)),gI 27 (.bin .neq (.t 26) (.v (.int .u8 (167)))),gM 22 27] (kP [0,1,4,22] [4] []))
 (.cond (.t 22)
 (.seq (.seq (.reg false [gI 28 (.build [(.int .i64 (0)),(.int .i64 (0)),(.string (ByteArray.mk #[])),(.int .i64 (0)),(.int .i64 (0)),(.int .i64 (0)),(.bool false)] []),gN (.store 7 (.t 4) (.t 28)),gI 5 (.mv (.v (.slice none 0 0))),gI 6 (.mv (oI 3))] (kP [4,5,6] [4] []))
 (.ty 5 3))
 .ret)
 .skip)))))
 (.seq (.reg false [gM 29 0,gM 30 1,gI 31 (.bin .add (.t 30) (oI 1)),gI 32 (.build [(.slice none 0 0),(.int .i64 (0)),(.bool false)] [(0,1,(.t 29)),(1,1,(.t 31))]),gI 33 (.box (.t 32)),gM 7 33] (kP [0,1,4,7,33] [4,33] []))
 (.seq (.reg false [gM 34 7,gI 35 (.callx (.f 79) [(.t 34),(oI 1)]),gM 8 35] (kP [0,1,4,7,8,33] [4,33] []))
 (.seq (.seq (.reg false [gM 36 7,gI 37 (.nilchk (.t 36)),gI 38 (.fadr 2 (.t 37)),gI 39 (.load false 1 (.t 38)),gM 40 39,gG 41 40 false (.mv (.t 8)),gG 42 40 false (.iadr 1 (.t 41) (oI 0)),gG 43 40 false (.load false 1 (.t 42)),gG 44 40 false (.bin .gtr (.t 43) (.v (.int .u8 (1)))),gI 45 (.pick (.t 40) (.v (.bool true)) (.t 44))] (kP [0,1,4,7,8,33,45] [4,33] []))
 (.cond (.t 45)
 (.seq (.seq (.reg false [gI 46 (.build [(.int .i64 (0)),(.int .i64 (0)),(.string (ByteArray.mk #[])),(.int .i64 (0)),(.int .i64 (0)),(.int .i64 (0)),(.bool false)] []),gN (.store 7 (.t 4) (.t 46)),gI 5 (.mv (.v (.slice none 0 0))),gI 6 (.mv (oI 9))] (kP [4,5,6] [4] []))
 (.ty 5 3))
 .ret)
 .skip))
 (.seq (.reg false [gM 47 7,gI 48 (.callx (.f 80) [(.t 47),(oI 1),(oI 40)]),gM 9 48] (kP [0,1,4,7,8,9,33] [4,33] []))
 (.seq (.reg false [gM 49 7,gM 50 9,gI 51 (.callx (.f 79) [(.t 49),(.t 50)]),gI 52 (.ssub (.s 51) none none),gM 10 52] (kP [0,1,4,7,8,10,33] [4,33] []))
 (.seq (.reg false [gM 53 7,gI 54 (.callx (.f 80) [(.t 53),(oI 1),(oI 100)]),gM 11 54] (kP [0,1,4,7,8,10,11,33] [4,33] []))
 (.seq (.reg false [gM 55 7,gM 56 11,gI 57 (.callx (.f 81) [(.t 55),(.t 56)]),gM 12 57] (kP [0,1,4,7,8,10,12,33] [4,33] []))
 (.seq (.reg false [gM 58 7,gI 59 (.nilchk (.t 58)),gI 60 (.fadr 1 (.t 59)),gI 61 (.load false 1 (.t 60)),gM 13 61] (kP [0,1,4,7,8,10,12,13,33] [4,33] []))
 (.seq (.reg false [gM 62 7,gI 63 (.callx (.f 79) [(.t 62),(oI 2)]),gM 14 63] (kP [0,1,4,7,8,10,12,13,14,33] [4,33] []))
 (.seq (.seq (.reg false [gM 64 7,gI 65 (.nilchk (.t 64)),gI 66 (.fadr 2 (.t 65)),gI 67 (.load false 1 (.t 66))] (kP [0,1,4,7,8,10,12,13,14,33,67] [4,33] []))
 (.cond (.t 67)
 (.seq (.seq (.reg false [gI 68 (.build [(.int .i64 (0)),(.int .i64 (0)),(.string (ByteArray.mk #[])),(.int .i64 (0)),(.int .i64 (0)),(.int .i64 (0)),(.bool false)] []),gN (.store 7 (.t 4) (.t 68)),gI 5 (.mv (.v (.slice none 0 0))),gI 6 (.mv (oI 9))] (kP [4,5,6] [4] []))
 (.ty 5 3))
 .ret)
 .skip))
 (.seq (.seq (.reg true [gM 69 14,gI 70 (.iadr 1 (.t 69) (oI 0)),gI 71 (.load false 1 (.t 70)),gI 72 (.conv .i64 (.t 71)),gI 73 (.bin .mul (.t 72) (oI 256)),gM 74 14,gI 75 (.iadr 1 (.t 74) (oI 1)),gI 76 (.load false 1 (.t 75)),gI 77 (.conv .i64 (.t 76)),gI 78 (.bin .add (.t 73) (.t 77)),gM 79 0,gM 80 1,gM 81 13,gI 82 (.slc 1 (.t 79) (some (.t 80)) (some (.t 81))),gI 83 (.call (.f 65) [(.t 82)]),gI 84 (.bin .neq (.t 78) (.t 83))] (kP [1,4,7,8,10,12,33,84] [4,33] []))
 (.cond (.t 84)
 (.seq (.seq (.reg false [gI 85 (.build [(.int .i64 (0)),(.int .i64 (0)),(.string (ByteArray.mk #[])),(.int .i64 (0)),(.int .i64 (0)),(.int .i64 (0)),(.bool false)] []),gN (.store 7 (.t 4) (.t 85)),gI 5 (.mv (.v (.slice none 0 0))),gI 6 (.mv (oI 15))] (kP [4,5,6] [4] []))
 (.ty 5 3))
 .ret)
 .skip))
 (.seq (.seq (.reg false [gM 86 10,gI 87 (.call (.f 46) [(.t 86)]),gI 88 (.un .not (.t 87))] (kP [1,4,7,8,10,12,33,88] [4,33] []))
 (.cond (.t 88)
 (.seq (.seq (.reg false [gI 89 (.build [(.int .i64 (0)),(.int .i64 (0)),(.string (ByteArray.mk #[])),(.int .i64 (0)),(.int .i64 (0)),(.int .i64 (0)),(.bool false)] []),gN (.store 7 (.t 4) (.t 89)),gI 5 (.mv (.v (.slice none 0 0))),gI 6 (.mv (oI 5))] (kP [4,5,6] [4] []))
 (.ty 5 3))
 .ret)
 .skip))
 (.seq (.seq (.reg false [gM 90 12,gI 91 (.call (.f 18) [(.t 90)]),gM 15 91] (kP [1,4,7,8,10,12,15,33] [4,33] []))
 (.seq (.reg false [gM 92 15,gI 93 (.bin .neq (.t 92) (oI 0))] (kP [1,4,7,8,10,12,15,33,93] [4,33] []))
 (.cond (.t 93)
 (.seq (.seq (.reg false [gI 94 (.build [(.int .i64 (0)),(.int .i64 (0)),(.string (ByteArray.mk #[])),(.int .i64 (0)),(.int .i64 (0)),(.int .i64 (0)),(.bool false)] []),gM 95 15,gN (.store 7 (.t 4) (.t 94)),gI 5 (.mv (.v (.slice none 0 0))),gM 6 95] (kP [4,5,6] [4] []))
 (.ty 5 3))
 .ret)
 .skip)))
 (.seq (.reg true [gM 96 1,gM 97 7,gI 98 (.nilchk (.t 97)),gI 99 (.fadr 1 (.t 98)),gI 100 (.load false 1 (.t 99)),gM 101 1,gI 102 (.bin .sub (.t 100) (.t 101)),gM 103 10,gM 104 12,gI 105 (.iadr 3 (.t 104) (oI 0)),gI 106 (.fadr 0 (.t 105)),gI 107 (.load false 1 (.t 106)),gM 108 12,gM 109 12,gI 110 (.len (.t 109)),gI 111 (.bin .sub (.t 110) (oI 1)),gI 112 (.iadr 3 (.t 108) (.t 111)),gI 113 (.fadr 0 (.t 112)),gI 114 (.load false 1 (.t 113)),gM 115 12,gI 116 (.len (.t 115)),gM 117 8,gI 118 (.iadr 1 (.t 117) (oI 0)),gI 119 (.load false 1 (.t 118)),gI 120 (.bin .eql (.t 119) (.v (.int .u8 (1)))),gI 121 (.build [(.int .i64 (0)),(.int .i64 (0)),(.string (ByteArray.mk #[])),(.int .i64 (0)),(.int .i64 (0)),(.int .i64 (0)),(.bool false)] [(0,1,(.t 96)),(1,1,(.t 102)),(2,1,(.t 103)),(3,1,(.t 107)),(4,1,(.t 114)),(5,1,(.t 116)),(6,1,(.t 120))]),gM 122 12,gN (.store 7 (.t 4) (.t 121)),gM 5 122,gI 6 (.mv (oI 0))] (kP [4,5,6] [4] []))
 .ret))))))))))))))))
theorem fc_decode : FcT Try.prog 68 Try.f68 C_decode [.cell 4 true 7, .t 5, .t 6] := fc_mk [aN [0,1,4] [4] [],aN [0,1,4,16] [4] [],⟨(kP [4,5,6] [4] []),[],[],[(5,3)],[]⟩,aN [0,1,4,22] [4] [],⟨(kP [4,5,6] [4] []),[],[],[(5,3)],[]⟩,aN [0,1,4,7,33] [4,33] [],aN [0,1,4,7,8,33] [4,33] [],aN [0,1,4,7,8,33,45] [4,33] [],⟨(kP [4,5,6] [4] []),[],[],[(5,3)],[]⟩,aN [0,1,4,7,8,9,33] [4,33] [],aN [0,1,4,7,8,10,33] [4,33] [],aN [0,1,4,7,8,10,11,33] [4,33] [],aN [0,1,4,7,8,10,12,33] [4,33] [],aN [0,1,4,7,8,10,12,13,33] [4,33] [],aN [0,1,4,7,8,10,12,13,14,33] [4,33] [],aN [0,1,4,7,8,10,12,13,14,33,67] [4,33] [],⟨(kP [4,5,6] [4] []),[],[],[(5,3)],[]⟩,aN [1,4,7,8,10,12,33,84] [4,33] [],⟨(kP [4,5,6] [4] []),[],[],[(5,3)],[]⟩,aN [1,4,7,8,10,12,33,88] [4,33] [],⟨(kP [4,5,6] [4] []),[],[],[(5,3)],[]⟩,aN [1,4,7,8,10,12,15,33] [4,33] [],aN [1,4,7,8,10,12,15,33,93] [4,33] [],⟨(kP [4,5,6] [4] []),[],[],[(5,3)],[]⟩,aN [4,5,6] [4] []] Try.func68 (by kernel_rfl)
theorem vI3 : vI 3 = [6] := by decide
theorem encS_eq (l : List Smp) : encS tgL false l = 167 :: 0 :: 6 :: 116 :: 97 :: 103 :: (vI l.length ++ (smB 0 0 l ++ [ckS 1 (bodyS tgL false l) / 256, ckS 1 (bodyS tgL false l) % 256])) := by
 unfold encS bodyS
 rw [show (tgL.length : Int) = 3 from rfl, vI3]
 simp [tgL]
theorem bodyS_eq (l : List Smp) : bodyS tgL false l = 167 :: 0 :: 6 :: 116 :: 97 :: 103 :: (vI l.length ++ smB 0 0 l) := by
 unfold bodyS
 rw [show (tgL.length : Int) = 3 from rfl, vI3]
 simp [tgL]
def blkC (l : List Smp) : List Cel := [.g (.int .i64 0), .g (.int .i64 (encS tgL false l).length), .g (.string tgB), .g (.int .i64 (l.getD 0 default).a), .g (.int .i64 (l.getD (l.length - 1) default).a), .g (.int .i64 l.length), .g (.bool false)]
theorem strS_tag : strS (.one (.sl false 1 (tgL.map u8C))) = .one (.g (.string tgB)) := rfl
theorem gd_0 {α : Type} (e : α) (r : List α) (d : α) : (e :: r).getD (Int.toNat 0) d = e := rfl
theorem gd_1 {α : Type} (e f : α) (r : List α) (d : α) : (e :: f :: r).getD (Int.toNat 1) d = f := rfl
attribute [local go_sem] Nat.zero_lt_one strS_tag gd_0 gd_1
theorem decode_fc (l : List Smp) (hk : ∀ x ∈ l, okSmp x) (hl : l.length ≤ 100) (h1 : 1 ≤ l.length) (hs : serFault l = 0) :
  FC Try.prog 68 none [bysV false (encS tgL false l), iv 0] (fun _ r => r = .tu [.ag (blkC l), smps true l, iv 0]) := by
 refine fc_decode (by simp +arith) ?_
 have hbo := bodyS_eq l
 have hbl := bodyS_len tgL false l
 have hbb := bodyS_byte tgL false l (by decide)
 have hen := encS_eq l
 have hel : (encS tgL false l).length = (bodyS tgL false l).length + 2 := by unfold encS; simp
 have hed : (encS tgL false l).take (bodyS tgL false l).length = bodyS tgL false l := by unfold encS; rw [List.take_left]
 have hec : encS tgL false l = bodyS tgL false l ++ [ckS 1 (bodyS tgL false l) / 256, ckS 1 (bodyS tgL false l) % 256] := rfl
 rw [show tgL.length = 3 from rfl] at hbl
 have hck := cksum_fc (bodyS tgL false l) (by omega) hbb
 have hcb := ckS_bd (bodyS tgL false l) 1 (by omega)
 unfold blkC
 generalize encS tgL false l = B at *
 generalize bodyS tgL false l = BO at *
 generalize ckS 1 BO = CK at *
 have hbl2 : BO.length = 6 + (vI l.length).length + (smB 0 0 l).length := by rw [hbo]; simp only [List.length_cons, List.length_append]; omega
 have hB : B.length ≤ 1000000 := by omega
 have b1 := rbytes_fc 1 B hB 1 (by omega) (by omega) (by omega)
 have b2 := rwithin_fc 3 1 40 (by omega) (by omega) B hB 2 (by omega) (116 :: 97 :: 103 :: (vI l.length ++ (smB 0 0 l ++ [CK / 256, CK % 256]))) (by rw [hen, vI3]; rfl)
 have b3 := rbytes_fc 3 B hB 3 (by omega) (by omega) (by omega)
 have b4 := rwithin_fc l.length 1 100 (by omega) (by omega) B hB 6 (by omega) (smB 0 0 l ++ [CK / 256, CK % 256]) (by rw [hen]; rfl)
 have b5 := rsamples_fc l hk B hB (6 + (vI l.length).length) (by omega) (by omega) [CK / 256, CK % 256] (by rw [hen, show (6 + ((vI l.length).length : Int)).toNat = (vI l.length).length + 6 by omega]; simp [List.drop_append])
 have b6 := rbytes_fc 2 B hB (6 + (vI l.length).length + (smB 0 0 l).length) (by omega) (by omega) (by omega)
 rw [show (B.drop (Int.toNat 1)).take (Int.toNat 1) = [0] by rw [hen]; rfl] at b1
 rw [show (1 : Int) + 1 = 2 from rfl] at b1
 rw [show (3 : Int) + 3 = 6 from rfl] at b3
 rw [show (2 : Int) + (vI 3).length = 3 by rw [vI3]; rfl] at b2
 rw [show (B.drop (Int.toNat 3)).take (Int.toNat 3) = tgL by rw [hen]; rfl] at b3
 rw [show (B.drop (6 + ((vI l.length).length : Int) + (smB 0 0 l).length).toNat).take (Int.toNat 2) = [CK / 256, CK % 256] by
  rw [hec, show (6 + ((vI l.length).length : Int) + (smB 0 0 l).length).toNat = BO.length by omega, List.drop_left]; rfl] at b6
 have e0 : B.getD (Int.toNat 0) default = 167 := by rw [hen]; rfl
 have cs := checkSeries_fc l (by omega)
 rw [hs] at cs
 generalize hp1 : (vI l.length).length = p1 at *
 generalize hp2 : (smB 0 0 l).length = p2 at *
 clear hen hbo hbb hec
 simp only [rdB_eq] at *
 unfold C_decode
 simp (maxSteps := 1000000) (disch := (first | omega | assumption)) only [go_sem]
 refine callx_det b1 rfl rfl ?_
 simp (maxSteps := 1000000) (disch := (first | omega | assumption)) only [go_sem]
 refine callx_det b2 rfl rfl ?_
 simp (maxSteps := 1000000) (disch := (first | omega | assumption)) only [go_sem]
 refine callx_det b3 rfl rfl ?_
 simp (maxSteps := 1000000) (disch := (first | omega | assumption)) only [go_sem]
 refine callx_det b4 rfl rfl ?_
 simp (maxSteps := 1000000) (disch := (first | omega | assumption)) only [go_sem]
 refine callx_det b5 rfl rfl ?_
 simp (maxSteps := 1000000) (disch := (first | omega | assumption)) only [go_sem]
 refine callx_det b6 rfl rfl ?_
 simp (maxSteps := 1000000) (disch := (first | omega | assumption)) only [go_sem]
 rw [show List.drop (Int.toNat 0) (List.take (6 + (p1 : Int) + p2).toNat (List.map u8C B)) = BO.map u8C by
  rw [show (6 + (p1 : Int) + p2).toNat = BO.length by omega, ← List.map_take, hed]; rfl]
 refine CALL_det hck (.inl rfl) ?_
 have ck2 : CK / 256 * 256 + CK % 256 = CK := by omega
 simp (maxSteps := 1000000) (disch := (first | omega | assumption)) only [go_sem]
 refine CALL_det tag_key (.inl rfl) ?_
 simp (maxSteps := 1000000) (disch := (first | omega | assumption)) only [go_sem]
 refine CALL_det cs (.inl rfl) ?_
 simp (maxSteps := 1000000) (disch := (first | omega | assumption)) only [go_sem]
 rw [show 6 + (p1 : Int) + p2 + 2 - 0 = (B.length : Int) by omega, show ((l.length : Int) - 1).toNat = l.length - 1 by omega]
 rfl
end Go.Proofs.Ytiiblflmfadmbaa

/-
 MaterialTraced: the walk.
-/
import Derived.Test.YtodmofhehabmgaaGreatDoorMtl
namespace Go.Proofs.YtodmofhehabmgaaGreatDoor
open Go Go.Ai
set_option linter.unusedSimpArgs false
set_option linter.unusedVariables false
set_option maxHeartbeats 4000000
def C_mtr : AC := (.seq (.reg false [gI 2 (.mv (.v (.bool false)))] (kP [0] [] []))
 (.seq (.reg false [gM 31 0,gI 32 (.build [(.slice none 0 0),(.int .i64 (0))] [(0,1,(.t 31))]),gI 33 (.box (.t 32)),gM 3 33] (kP [3,33] [33] []))
 (.seq (.reg false [gM 34 3,gI 35 (.callx (.f 4) [(.t 34)]),gM 36 3,gI 37 (.bslice 1 5 [(.v (.string (ByteArray.mk #[98,49]))),(.v (.string (ByteArray.mk #[98,51]))),(.v (.string (ByteArray.mk #[98,53]))),(.v (.string (ByteArray.mk #[122,122]))),(.v (.string (ByteArray.mk #[])))]),gI 38 (.callx (.f 5) [(.t 36),(.t 37)]),gM 39 3,gI 40 (.bslice 1 5 [(.v (.string (ByteArray.mk #[98,49]))),(.v (.string (ByteArray.mk #[98,50]))),(.v (.string (ByteArray.mk #[98,52]))),(.v (.string (ByteArray.mk #[122,122]))),(.v (.string (ByteArray.mk #[])))]),gI 41 (.callx (.f 5) [(.t 39),(.t 40)]),gM 42 3,gI 43 (.callx (.f 6) [(.t 42)]),gI 7 (.alloc [(.int .i64 (0)),(.int .i64 (0))]),gM 4 35,gM 5 38,gM 6 41,gN (.store 2 (.t 7) (.t 43))] (kP [3,4,5,6,7,33] [7,33] []))
 (.seq (.seq (.reg false [gM 44 3,gI 45 (.callx (.f 7) [(.t 44),(oI 8)])] (kP [3,4,5,6,7,33,45] [7,33] []))
 (.cond (.t 45)
 (.reg false [gM 46 3,gI 47 (.callx (.f 8) [(.t 46)]),gM 48 3,gI 49 (.bslice 1 2 [(.v (.string (ByteArray.mk #[99,51]))),(.v (.string (ByteArray.mk #[99,49])))]),gI 50 (.callx (.f 5) [(.t 48),(.t 49)]),gM 51 3,gI 52 (.bslice 1 2 [(.v (.string (ByteArray.mk #[99,48]))),(.v (.string (ByteArray.mk #[100,49])))]),gI 53 (.callx (.f 5) [(.t 51),(.t 52)]),gM 4 47,gM 5 50,gM 6 53] (kP [3,4,5,6,7,33] [7,33] []))
 .skip))
 (.seq (.reg false [gM 54 4,gI 55 (.call (.f 9) [(.t 54)]),gM 8 55] (kP [3,4,5,6,7,8,33] [7,33] []))
 (.seq (.seq (.reg false [gM 56 4,gI 57 (.call (.f 10) [(.t 56)]),gM 58 8,gI 59 (.bin .neq (.t 57) (.t 58))] (kP [3,4,5,6,7,8,33,59] [7,33] []))
 (.cond (.t 59)
 (.seq (.reg false [gI 2 (.mv (.v (.bool false)))] (kP [2] [] []))
 .ret)
 .skip))
 (.seq (.reg false [gM 61 4,gM 62 5,gI 63 (.call (.f 11) [(.t 61),(.t 62)]),gM 60 63,gI 64 (.extr (.t 60) 0),gI 65 (.extr (.t 60) 1),gM 9 64,gM 10 65] (kP [3,4,5,6,7,8,9,10,33] [7,33] []))
 (.seq (.reg false [gM 67 4,gM 68 5,gI 69 (.call (.f 12) [(.t 67),(.t 68)]),gM 66 69,gI 70 (.extr (.t 66) 0),gI 71 (.extr (.t 66) 1),gM 11 70,gM 12 71] (kP [3,4,5,6,7,8,9,10,11,12,33] [7,33] []))
 (.seq (.reg false [gM 73 4,gM 74 5,gM 75 6,gI 76 (.call (.f 13) [(.t 73),(.t 74),(.t 75)]),gM 72 76,gI 77 (.extr (.t 72) 0),gI 78 (.extr (.t 72) 1),gI 13 (.alloc [(.int .i64 (0)),(.int .i64 (0))]),gN (.store 2 (.t 13) (.t 77)),gM 14 78] (kP [3,4,5,6,7,8,9,10,11,12,13,14,33] [7,13,33] []))
 (.seq (.reg false [gM 80 4,gM 81 6,gI 82 (.load true 2 (.t 7)),gI 83 (.call (.f 14) [(.t 80),(.t 81),(.t 82)]),gM 79 83,gI 84 (.extr (.t 79) 0),gI 85 (.extr (.t 79) 1),gM 15 84,gM 16 85] (kP [3,4,5,6,7,8,9,10,11,12,13,14,15,16,33] [7,13,33] []))
 (.seq (.reg false [gM 86 8,gM 87 5,gI 88 (.call (.f 16) [(.t 87)]),gI 89 (.bslice 1 2 [(.t 86),(.t 88)]),gI 90 (.call (.f 15) [(.t 89)]),gM 17 90] (kP [3,4,5,6,7,8,9,10,11,12,13,14,15,16,17,33] [7,13,33] []))
 (.seq (.reg true [gM 91 17,gM 92 6,gI 93 (.call (.f 16) [(.t 92)]),gI 94 (.bslice 1 2 [(.t 91),(.t 93)]),gI 95 (.call (.f 15) [(.t 94)]),gM 96 8,gM 97 6,gI 98 (.call (.f 16) [(.t 97)]),gI 99 (.load true 2 (.t 7)),gI 100 (.call (.f 17) [(.t 99)]),gI 101 (.bslice 1 3 [(.t 96),(.t 98),(.t 100)]),gI 102 (.call (.f 15) [(.t 101)]),gM 18 95,gM 19 102] (kP [3,4,5,6,7,8,9,10,11,12,13,14,15,16,17,18,19,33] [7,13,33] []))
 (.seq (.seq (.seq (.seq (.reg false [gI 20 (.mv (.v (.slice none 0 0))),gI 21 (.mv (.v (.slice none 0 0))),gI 22 (.mv (.v (.slice none 0 0)))] (kP [3,4,5,6,7,8,9,10,11,12,13,14,15,16,17,18,19,20,21,22,33] [7,13,33] []))
 (.ty 20 1))
 (.ty 21 1))
 (.ty 22 1))
 (.seq (.reg false [gI 23 (.alloc [(.int .i64 (0)),(.int .i64 (0))])] (kP [3,4,5,6,7,8,9,10,11,12,13,14,15,16,17,18,19,20,21,22,23,33] [7,13,23,33] []))
 (.seq (.seq (.reg false [gM 103 17,gI 104 (.bin .eql (.t 103) (oI 0))] (kP [3,4,5,6,7,8,9,10,11,12,13,14,15,16,17,18,19,20,21,22,23,33,104] [7,13,23,33] []))
 (.cond (.t 104)
 (.reg false [gM 105 4,gM 106 5,gI 107 (.call (.f 18) [(.t 105),(.t 106)]),gM 108 4,gM 109 5,gI 110 (.callm (.f 19) [(.t 108),(.t 109)] ⟨[],[],[],[610],[]⟩),gM 20 107,gM 21 110] (kP [3,4,5,6,7,8,9,10,11,12,13,14,15,16,17,18,19,20,21,22,23,33] [7,13,23,33] []))
 .skip))
 (.seq (.seq (.reg false [gM 111 18,gI 112 (.bin .eql (.t 111) (oI 0))] (kP [3,4,5,6,7,8,9,10,11,12,13,14,15,16,17,18,19,20,21,22,23,33,112] [7,13,23,33] []))
 (.cond (.t 112)
 (.reg false [gM 114 4,gM 115 5,gM 116 6,gI 117 (.call (.f 20) [(.t 114),(.t 115),(.t 116)]),gM 113 117,gI 118 (.extr (.t 113) 0),gI 119 (.extr (.t 113) 1),gN (.store 2 (.t 23) (.t 118)),gM 18 119] (kP [3,4,6,7,8,9,10,11,12,13,14,15,16,17,18,19,20,21,22,23,33] [7,13,23,33] []))
 .skip))
 (.seq (.seq (.reg false [gM 120 19,gI 121 (.bin .eql (.t 120) (oI 0))] (kP [3,4,6,7,8,9,10,11,12,13,14,15,16,17,18,19,20,21,22,23,33,121] [7,13,23,33] []))
 (.cond (.t 121)
 (.reg false [gM 123 4,gM 124 6,gI 125 (.load true 2 (.t 7)),gI 126 (.call (.f 21) [(.t 123),(.t 124),(.t 125)]),gM 122 126,gI 127 (.extr (.t 122) 0),gI 128 (.extr (.t 122) 1),gM 22 127,gM 19 128] (kP [3,4,8,9,10,11,12,13,14,15,16,17,18,19,20,21,22,23,33] [13,23,33] []))
 .skip))
 (.seq (.seq (.reg false [gM 129 10,gM 130 17,gI 131 (.bin .neq (.t 129) (.t 130)),gM 132 131,gG 133 132 false (.mv (.t 9)),gG 134 132 false (.mv (.t 20)),gG 135 132 false (.call (.f 22) [(.t 133),(.t 134)]),gG 136 132 false (.un .not (.t 135)),gI 137 (.pick (.t 132) (.v (.bool true)) (.t 136)),gM 138 137,gG 139 138 false (.mv (.t 12)),gG 140 138 false (.mv (.t 17)),gG 141 138 false (.bin .neq (.t 139) (.t 140)),gI 142 (.pick (.t 138) (.v (.bool true)) (.t 141)),gM 143 142,gG 144 143 false (.mv (.t 11)),gG 145 143 false (.mv (.t 21)),gG 146 143 false (.call (.f 22) [(.t 144),(.t 145)]),gG 147 143 false (.un .not (.t 146)),gI 148 (.pick (.t 143) (.v (.bool true)) (.t 147)),gM 149 148,gG 150 149 false (.mv (.t 14)),gG 151 149 false (.mv (.t 18)),gG 152 149 false (.bin .neq (.t 150) (.t 151)),gI 153 (.pick (.t 149) (.v (.bool true)) (.t 152)),gM 154 153,gG 155 154 false (.load true 2 (.t 13)),gG 156 154 false (.load true 2 (.t 23)),gG 157 154 false (.eqs true true [.i .i64,.i .i64] (.t 155) (.t 156)),gI 158 (.pick (.t 154) (.v (.bool true)) (.t 157)),gM 159 158,gG 160 159 false (.mv (.t 16)),gG 161 159 false (.mv (.t 19)),gG 162 159 false (.bin .neq (.t 160) (.t 161)),gI 163 (.pick (.t 159) (.v (.bool true)) (.t 162)),gM 164 163,gG 165 164 false (.mv (.t 15)),gG 166 164 false (.mv (.t 22)),gG 167 164 false (.call (.f 22) [(.t 165),(.t 166)]),gG 168 164 false (.un .not (.t 167)),gI 169 (.pick (.t 164) (.v (.bool true)) (.t 168))] (kP [3,4,8,33,169] [33] []))
 (.cond (.t 169)
 (.seq (.reg false [gI 2 (.mv (.v (.bool false)))] (kP [2] [] []))
 .ret)
 .skip))
 (.seq (.reg false [gM 171 4,gI 172 (.call (.f 23) [(.t 171)]),gM 170 172,gI 173 (.extr (.t 170) 0),gI 174 (.extr (.t 170) 1),gM 24 173,gM 10 174] (kP [3,4,8,10,24,33] [33] []))
 (.seq (.seq (.reg false [gM 175 10,gM 176 8,gI 177 (.bin .neq (.t 175) (.t 176)),gM 178 177,gG 179 178 false (.mv (.t 8)),gG 180 178 false (.bin .eql (.t 179) (oI 0)),gG 181 178 false (.mv (.t 180)),gG 182 181 true (.mv (.t 24)),gG 183 181 true (.mv (.t 4)),gG 184 181 true (.call (.f 24) [(.t 183)]),gG 185 181 true (.bin .neq (.t 182) (.t 184)),gG 186 178 false (.pick (.t 181) (.t 185) (.v (.bool false))),gI 187 (.pick (.t 178) (.v (.bool true)) (.t 186)),gM 188 187,gG 189 188 false (.mv (.t 8)),gG 190 188 false (.bin .neq (.t 189) (oI 0)),gG 191 188 false (.mv (.t 190)),gG 192 191 true (.mv (.t 24)),gG 193 191 true (.bin .neq (.t 192) (.v (.string (ByteArray.mk #[])))),gG 194 188 false (.pick (.t 191) (.t 193) (.v (.bool false))),gI 195 (.pick (.t 188) (.v (.bool true)) (.t 194))] (kP [3,33,195] [33] []))
 (.cond (.t 195)
 (.seq (.reg false [gI 2 (.mv (.v (.bool false)))] (kP [2] [] []))
 .ret)
 .skip))
 (.seq (.reg false [gM 196 3,gI 197 (.callx (.f 25) [(.t 196)]),gM 24 197] (kP [24] [] []))
 (.seq (.reg false [gM 199 24,gI 200 (.call (.f 26) [(.t 199)]),gM 198 200,gI 201 (.extr (.t 198) 0),gI 202 (.extr (.t 198) 1),gI 203 (.extr (.t 198) 2),gM 25 201,gM 26 202,gM 27 203] (kP [24,25,26,27] [] []))
 (.seq (.reg false [gM 205 24,gI 206 (.call (.f 27) [(.t 205)]),gM 204 206,gI 207 (.extr (.t 204) 0),gI 208 (.extr (.t 204) 1),gI 209 (.extr (.t 204) 2),gM 28 207,gM 29 208,gM 30 209] (kP [25,26,27,28,29,30] [] []))
 (.seq (.reg false [gM 210 27,gM 211 30,gI 212 (.bin .eql (.t 210) (.t 211)),gM 213 212,gG 214 213 true (.mv (.t 26)),gG 215 213 true (.mv (.t 29)),gG 216 213 true (.bin .eql (.t 214) (.t 215)),gI 217 (.pick (.t 213) (.t 216) (.v (.bool false))),gM 218 217,gG 219 218 true (.mv (.t 25)),gG 220 218 true (.mv (.t 28)),gG 221 218 true (.call (.f 28) [(.t 219),(.t 220)]),gI 222 (.pick (.t 218) (.t 221) (.v (.bool false))),gM 223 222,gG 224 223 true (.call (.f 29) []),gI 225 (.pick (.t 223) (.t 224) (.v (.bool false))),gM 2 225] (kP [2] [] []))
 .ret))))))))))))))))))))))))
theorem fc_mtr : FcT Tryz.prog 3 Tryz.f3 C_mtr [.t 2] := fc_mk [aN [0] [] [],aN [3,33] [33] [],aN [3,4,5,6,7,33] [7,33] [],aN [3,4,5,6,7,33,45] [7,33] [],aN [3,4,5,6,7,33] [7,33] [],aN [3,4,5,6,7,8,33] [7,33] [],aN [3,4,5,6,7,8,33,59] [7,33] [],aN [2] [] [],aN [3,4,5,6,7,8,9,10,33] [7,33] [],aN [3,4,5,6,7,8,9,10,11,12,33] [7,33] [],aN [3,4,5,6,7,8,9,10,11,12,13,14,33] [7,13,33] [],aN [3,4,5,6,7,8,9,10,11,12,13,14,15,16,33] [7,13,33] [],aN [3,4,5,6,7,8,9,10,11,12,13,14,15,16,17,33] [7,13,33] [],aN [3,4,5,6,7,8,9,10,11,12,13,14,15,16,17,18,19,33] [7,13,33] [],⟨(kP [3,4,5,6,7,8,9,10,11,12,13,14,15,16,17,18,19,20,21,22,33] [7,13,33] []),[],[],[(20,1),(21,1),(22,1)],[]⟩,aN [3,4,5,6,7,8,9,10,11,12,13,14,15,16,17,18,19,20,21,22,23,33] [7,13,23,33] [],aN [3,4,5,6,7,8,9,10,11,12,13,14,15,16,17,18,19,20,21,22,23,33,104] [7,13,23,33] [],⟨(kP [3,4,5,6,7,8,9,10,11,12,13,14,15,16,17,18,19,20,21,22,23,33] [7,13,23,33] []),[],[],[],[(110,⟨[],[],[],[610],[]⟩)]⟩,aN [3,4,5,6,7,8,9,10,11,12,13,14,15,16,17,18,19,20,21,22,23,33,112] [7,13,23,33] [],aN [3,4,6,7,8,9,10,11,12,13,14,15,16,17,18,19,20,21,22,23,33] [7,13,23,33] [],aN [3,4,6,7,8,9,10,11,12,13,14,15,16,17,18,19,20,21,22,23,33,121] [7,13,23,33] [],aN [3,4,8,9,10,11,12,13,14,15,16,17,18,19,20,21,22,23,33] [13,23,33] [],aN [3,4,8,33,169] [33] [],aN [2] [] [],aN [3,4,8,10,24,33] [33] [],aN [3,33,195] [33] [],aN [2] [] [],aN [24] [] [],aN [24,25,26,27] [] [],aN [25,26,27,28,29,30] [] [],aN [2] [] []] Tryz.func3 (by kernel_rfl)
section
variable {P : Program} {s : AS} {k : List KI} {kp : Option Keep} {l : List GI} {Q : AX → AS → Prop}
theorem CALLX_det {f : FuncId} {key : Nat} {cs0 cs : List Cel} {vargs : List Val} {d : Option Nat} {r : Val} (hf : FC P f (some cs0) vargs (fun cs' x => cs' = cs ∧ x = r)) (hr : dataRV r = true) (hc : cs.all dataRC = true)
  (h : rg P l kp k Q ({ s with bx := upd s.bx key (some cs) }.put d r)) : CALLX P f key cs0 vargs d l kp k Q s :=
 ⟨_, hf, ⟨cs, r, rfl, rfl⟩, fun _ _ hx => by obtain ⟨rfl, rfl⟩ := hx; exact ⟨hr, hc, h⟩⟩
end
def acL : AC → AC
 | .seq a _ => a
 | c => c
def acR : AC → AC
 | .seq _ b => b
 | c => c
/-- What is done when transfers, batches and a share are drawn. -/
def C_m5 : AC := acR (acR (acR (acR (acR C_mtr))))
theorem m0_eq : C_mtr = .seq (acL C_mtr) (.seq (acL (acR C_mtr)) (.seq (acL (acR (acR C_mtr))) (.seq (acL (acR (acR (acR C_mtr)))) (.seq (acL (acR (acR (acR (acR C_mtr))))) C_m5)))) := rfl
/-- What is done when all answers are compared. -/
def C_m18 : AC := acR (acR (acR (acR (acR (acR (acR (acR (acR (acR (acR (acR (acR C_m5))))))))))))
theorem m5_eq : C_m5 = .seq (acL C_m5) (.seq (acL (acR C_m5)) (.seq (acL (acR (acR C_m5))) (.seq (acL (acR (acR (acR C_m5)))) (.seq (acL (acR (acR (acR (acR C_m5))))) (.seq (acL (acR (acR (acR (acR (acR C_m5)))))) (.seq (acL (acR (acR (acR (acR (acR (acR C_m5))))))) (.seq (acL (acR (acR (acR (acR (acR (acR (acR C_m5)))))))) (.seq (acL (acR (acR (acR (acR (acR (acR (acR (acR C_m5))))))))) (.seq (acL (acR (acR (acR (acR (acR (acR (acR (acR (acR C_m5)))))))))) (.seq (acL (acR (acR (acR (acR (acR (acR (acR (acR (acR (acR C_m5))))))))))) (.seq (acL (acR (acR (acR (acR (acR (acR (acR (acR (acR (acR (acR C_m5)))))))))))) (.seq (acL (acR (acR (acR (acR (acR (acR (acR (acR (acR (acR (acR (acR C_m5))))))))))))) C_m18)))))))))))) := rfl
def m5St (L : List Int) (l : List Trf) (x y : ByteArray) (n d : Int) (p : Int) : AS := ⟨tabV [(3, .one (.bx 33 0)), (4, trs true l), (5, sv x), (6, sv y), (7, .one (.bx 7 0)), (8, iv (ctF l)), (33, .one (.bx 33 0))], tabO [(7, lsB n d), (33, strm L p)], tabO []⟩
def m18St (L : List Int) (l : List Trf) (p : Int) : AS := ⟨tabV [(3, .one (.bx 33 0)), (4, trs true l), (8, iv (ctF l)), (33, .one (.bx 33 0)), (169, bv false)], tabO [(33, strm L p)], tabO []⟩
set_option maxHeartbeats 12000000 in
set_option maxRecDepth 8000 in
theorem m18_ok (L : List Int) (hL : ∀ x ∈ L, I64 x) (hl : L.length ≤ 9223372036854775807) (l : List Trf) (hsm : SmT l) (p : Int) (hp : 0 ≤ p ∧ p ≤ 20000) : ex Tryz.prog C_m18 [] (fpost none [RV.t 2] fun x r => r = bv true) (m18St L l p) := by
 obtain ⟨⟨p2, r2⟩, ⟨c2, b2, s, hs, rfl⟩, hf2⟩ := trString_det L p hL hl (by omega) (by omega)
 simp only at b2 c2 hf2
 have k10 := readTr_fc s hs
 have k11 := rtRead_fc s hs
 have hrl := ttF_len s
 generalize ttF s.data.toList = R at *
 obtain ⟨ra, rj, re⟩ := R
 simp only at k10 k11 hrl
 have hlen := hsm.len
 have kt := textA_fc hsm
 have ktr : ctF l = 0 → FC Tryz.prog 24 none [trs false l] (fun _ r => r = sv (bS (textT l))) := fun h => tlines_fc l h
 unfold m18St
 generalize ctF l = F at *
 generalize bS (textT l) = ta at *
 unfold C_m18 C_m5 strm
 simp only [C_mtr, acR]
 by_cases h0 : F = 0
 ·have k2 := ktr h0
  rw [if_pos h0] at kt
  subst h0
  clear ktr
  simp (maxSteps := 1000000) (disch := (first | omega | assumption)) only [go_sem]
  refine CALL_det kt (.inl rfl) ?_
  simp (maxSteps := 1000000) (disch := (first | omega | assumption)) only [go_sem]
  refine CALL_det k2 (.inl rfl) ?_
  simp (maxSteps := 1000000) (disch := (first | omega | assumption)) only [go_sem]
  refine CALLX_det hf2 rfl rfl ?_
  unfold strm
  simp (maxSteps := 1000000) (disch := (first | omega | assumption)) only [go_sem]
  refine CALL_det k10 (.inl rfl) ?_
  simp (maxSteps := 1000000) (disch := (first | omega | assumption)) only [go_sem]
  refine CALL_det k11 (.inl rfl) ?_
  simp (maxSteps := 1000000) (disch := (first | omega | assumption)) only [go_sem]
  refine CALL_det (eqTrf_fc ra (by omega)) (.inl rfl) ?_
  simp (maxSteps := 1000000) (disch := (first | omega | assumption)) only [go_sem]
  refine CALL_det batched_fc (.inl rfl) ?_
  simp (maxSteps := 1000000) (disch := (first | omega | assumption)) only [go_sem]
 ·rw [if_neg h0] at kt
  clear ktr
  simp (maxSteps := 1000000) (disch := (first | omega | assumption)) only [go_sem]
  refine CALL_det kt (.inl rfl) ?_
  simp (maxSteps := 1000000) (disch := (first | omega | assumption)) only [go_sem]
  refine CALLX_det hf2 rfl rfl ?_
  unfold strm
  simp (maxSteps := 1000000) (disch := (first | omega | assumption)) only [go_sem]
  refine CALL_det k10 (.inl rfl) ?_
  simp (maxSteps := 1000000) (disch := (first | omega | assumption)) only [go_sem]
  refine CALL_det k11 (.inl rfl) ?_
  simp (maxSteps := 1000000) (disch := (first | omega | assumption)) only [go_sem]
  refine CALL_det (eqTrf_fc ra (by omega)) (.inl rfl) ?_
  simp (maxSteps := 1000000) (disch := (first | omega | assumption)) only [go_sem]
  refine CALL_det batched_fc (.inl rfl) ?_
  simp (maxSteps := 1000000) (disch := (first | omega | assumption)) only [go_sem]
/-! ### what the calls answer -/
theorem srA_len {l : List Trf} (h : l.length ≤ 13) (x : ByteArray) : (srA l x).length ≤ 1000000 := by
 unfold srA
 split
 ·rw [srtS_len]; have := srcL_len' l x; omega
 ·simp
theorem prA_len {l : List Trf} (h : l.length ≤ 13) (x : ByteArray) : (prA l x).length ≤ 1000000 := by
 unfold prA
 split
 ·rw [srtS_len]; have := prdL_len l x; omega
 ·simp
theorem rcAL_len {l : List Trf} (h : l.length ≤ 13) (y : ByteArray) (n d : Int) : (rcAL l y n d).length ≤ 1000000 := by
 unfold rcAL rcL
 split
 ·split
  ·unfold sstF
   rw [sinI_len]
   have h1 := List.length_filter_le (fun p => !rcBad l y n d p) (srtS (prdL l y))
   rw [srtS_len] at h1
   have := prdL_len l y
   omega
  ·simp
 ·simp
theorem rsrc_fc {l : List Trf} (h : l.length ≤ 13) {x : ByteArray} (h0 : fE l x = 0) : FC Tryz.prog 18 none [trs false l, sv x] (fun _ r => r = strs true (srA l x)) := by
 unfold srA
 rw [if_pos h0, ← src_same]
 exact srcOf_fc l (by omega) x
theorem rprd_fcm {l : List Trf} (h : l.length ≤ 13) {x : ByteArray} (h0 : fE l x = 0) : FCM Tryz.prog 19 ⟨[], []⟩ [trs false l, sv x] (fun H r => H = ⟨[], [(605, stRow 0 (prA l x))]⟩ ∧ r = .one (.ow 605 0)) := by
 unfold prA
 rw [if_pos h0, ← prd_same]
 exact prdOf_fcm l (by omega) x
theorem rshr_fc {l : List Trf} {x y : ByteArray} (h0 : twE l x y = 0) : FC Tryz.prog 20 none [trs false l, sv x, sv y] (fun _ r => r = .tu [.ag [.g (.int .i64 (shAN l x y)), .g (.int .i64 (shAD l x y))], iv (shAE l x y)]) := by
 have hf : fE l x = 0 := by
  unfold twE at h0
  by_cases c : fE l x ≠ 0
  ·rw [if_pos c] at h0; exact absurd h0 c
  ·omega
 unfold shAN shAD shAE
 rw [if_pos h0, if_pos h0, if_pos h0]
 exact rshare_fc (flo_of (fE_zero hf).1) x y
theorem rrcl_fc {l : List Trf} (hsm : SmT l) (h : l.length ≤ 13) {y : ByteArray} {n d : Int} (h0 : thE l y n d = 0) : FC Tryz.prog 21 none [trs false l, sv y, .ag [.g (.int .i64 n), .g (.int .i64 d)]] (fun _ r => r = .tu [strs true (rcAL l y n d), iv (rcAE l y n d)]) := by
 have hz := thE_zero h0
 unfold rcAL rcAE
 rw [if_pos h0, if_pos h0]
 exact rrc_ok hsm y n d hz.1 hz.2 (by have := prdL_len l y; omega)
theorem and_split {a b : Prop} (h1 : a) (h2 : b) : a ∧ b := ⟨h1, h2⟩
set_option maxHeartbeats 16000000 in
set_option maxRecDepth 8000 in
theorem m5_ok (L : List Int) (hL : ∀ x ∈ L, I64 x) (hl : L.length ≤ 9223372036854775807) (l : List Trf) (hsm : SmT l) (h13 : l.length ≤ 13) (x y : ByteArray) (hx : x.size ≤ 1000000) (hy : y.size ≤ 1000000) (n d : Int) (hn : I64 n) (hd : I64 d) (p : Int) (hp : 0 ≤ p ∧ p ≤ 20000) : ex Tryz.prog C_m5 [] (fpost none [RV.t 2] fun x r => r = bv true) (m5St L l x y n d p) := by
 have hT := m18_ok L hL hl l hsm p hp
 have hlen := hsm.len
 have kc := ckT_fc l (by omega) hsm.siz
 have kS := sourcesA_fc hsm x hx
 have kP := productsA_fc hsm x hx
 have kSh := shareA_fc hsm x y hx hy
 have kR := rclA_fc hsm h13 y hy n d hn hd
 have kkx : FC Tryz.prog 16 none [sv x] (fun _ r => r = iv (kF x)) := keyF_fc x hx
 have kky : FC Tryz.prog 16 none [sv y] (fun _ r => r = iv (kF y)) := keyF_fc y hy
 have kL := leastF_fc n d hn hd
 have ko1 := orE_fc false [ctF l, kF x] (by simp)
 rw [or_fE] at ko1
 have ko2 := orE_fc false [fE l x, kF y] (by simp)
 rw [or_twE] at ko2
 have ko3 := orE_fc false [ctF l, kF y, lsF n d] (by simp)
 rw [or_thE] at ko3
 have rS := fun h => rsrc_fc (l := l) (x := x) h13 h
 have rP := fun h => rprd_fcm (l := l) (x := x) h13 h
 have rSh := fun h => rshr_fc (l := l) (x := x) (y := y) h
 have rR := fun h => rrcl_fc (l := l) (y := y) (n := n) (d := d) hsm h13 h
 have nS : ¬fE l x = 0 → srA l x = [] ∧ prA l x = [] := fun h => ⟨if_neg h, if_neg h⟩
 have nSh : ¬twE l x y = 0 → shAN l x y = 0 ∧ shAD l x y = 0 ∧ shAE l x y = twE l x y := fun h => ⟨if_neg h, if_neg h, if_neg h⟩
 have nR : ¬thE l y n d = 0 → rcAL l y n d = [] ∧ rcAE l y n d = thE l y n d := fun h => ⟨if_neg h, if_neg h⟩
 have hsx := srA_len h13 x
 have hpx := prA_len h13 x
 have hrl := rcAL_len h13 y n d
 unfold m18St at hT
 unfold m5St
 generalize fE l x = o1 at *
 generalize twE l x y = o2 at *
 generalize thE l y n d = o3 at *
 generalize srA l x = sx at *
 generalize prA l x = px at *
 generalize shAN l x y = sN at *
 generalize shAD l x y = sD at *
 generalize shAE l x y = sE at *
 generalize rcAL l y n d = rl at *
 generalize rcAE l y n d = re at *
 generalize kF x = k1 at *
 generalize kF y = k2 at *
 generalize lsF n d = k3 at *
 generalize ctF l = F at *
 rw [m5_eq]
 generalize C_m18 = T at *
 unfold C_m5
 simp only [C_mtr, acR, acL]
 unfold strm at hT ⊢
 simp (maxSteps := 1000000) (disch := (first | omega | assumption)) only [go_sem]
 refine CALL_det kc (.inl rfl) ?_
 simp (maxSteps := 1000000) (disch := (first | omega | assumption)) only [go_sem]
 refine CALL_det kS (.inl rfl) ?_
 simp (maxSteps := 1000000) (disch := (first | omega | assumption)) only [go_sem]
 refine CALL_det kP (.inl rfl) ?_
 simp (maxSteps := 1000000) (disch := (first | omega | assumption)) only [go_sem]
 refine CALL_det kSh (.inl rfl) ?_
 simp (maxSteps := 1000000) (disch := (first | omega | assumption)) only [go_sem]
 refine CALL_det kR (.inl rfl) ?_
 simp (maxSteps := 1000000) (disch := (first | omega | assumption)) only [go_sem]
 refine CALL_det kkx (.inl rfl) ?_
 simp (maxSteps := 1000000) (disch := (first | omega | assumption)) only [go_sem]
 refine CALL_det ko1 (.inl rfl) ?_
 simp (maxSteps := 1000000) (disch := (first | omega | assumption)) only [go_sem]
 refine CALL_det kky (.inl rfl) ?_
 simp (maxSteps := 1000000) (disch := (first | omega | assumption)) only [go_sem]
 refine CALL_det ko2 (.inl rfl) ?_
 simp (maxSteps := 1000000) (disch := (first | omega | assumption)) only [go_sem]
 refine CALL_det kky (.inl rfl) ?_
 simp (maxSteps := 1000000) (disch := (first | omega | assumption)) only [go_sem]
 refine CALL_det kL (.inl rfl) ?_
 simp (maxSteps := 1000000) (disch := (first | omega | assumption)) only [go_sem]
 refine CALL_det ko3 (.inl rfl) ?_
 simp (maxSteps := 1000000) (disch := (first | omega | assumption)) only [go_sem]
 refine and_split (fun h1 => ?_) (fun h1 => ?_)
 ·refine CALL_det (rS h1) (.inl rfl) ?_
  simp (maxSteps := 1000000) (disch := (first | omega | assumption)) only [go_sem]
  refine ⟨rfl, CALLM_rnE ⟨[], [(610, stRow 0 px)]⟩ (.one (.ow 610 0)) (fun k => k) (Go.Ai.swp 605 610) (fun _ => rfl) (Go.Ai.swp_swp 605 610) (rP h1) (by simp) rfl rfl rfl rfl ⟨rfl, rfl⟩ ?_⟩
  simp (maxSteps := 1000000) (disch := (first | omega | assumption)) only [go_sem]
  refine and_split (fun h2 => ?_) (fun h2 => ?_)
  ·refine CALL_det (rSh h2) (.inl rfl) ?_
   simp (maxSteps := 1000000) (disch := (first | omega | assumption)) only [go_sem]
   refine and_split (fun h3 => ?_) (fun h3 => ?_)
   ·refine CALL_det (rR h3) (.inl rfl) ?_
    simp (maxSteps := 1000000) (disch := (first | omega | assumption)) only [go_sem]
    refine CALL_det (eqStr_fc _ hsx) (.inl rfl) ?_
    simp (maxSteps := 1000000) (disch := (first | omega | assumption)) only [go_sem]
    refine CALL_det (eqStr_fc _ hpx) (.inl rfl) ?_
    simp (maxSteps := 1000000) (disch := (first | omega | assumption)) only [go_sem]
    refine CALL_det (eqStr_fc _ hrl) (.inl rfl) ?_
    simp (maxSteps := 1000000) (disch := (first | omega | assumption)) only [go_sem]
    exact hT
   ·obtain ⟨e1, e2⟩ := nR h3
    subst e1; subst e2
    try simp (maxSteps := 1000000) (disch := (first | omega | assumption)) only [go_sem]
    refine CALL_det (eqStr_fc _ hsx) (.inl rfl) ?_
    simp (maxSteps := 1000000) (disch := (first | omega | assumption)) only [go_sem]
    refine CALL_det (eqStr_fc _ hpx) (.inl rfl) ?_
    simp (maxSteps := 1000000) (disch := (first | omega | assumption)) only [go_sem]
    refine CALL_det (eqStr_fc _ hrl) (.inl rfl) ?_
    simp (maxSteps := 1000000) (disch := (first | omega | assumption)) only [go_sem]
    exact hT
  ·obtain ⟨e1, e2, e3⟩ := nSh h2
   subst e1; subst e2; subst e3
   try simp (maxSteps := 1000000) (disch := (first | omega | assumption)) only [go_sem]
   refine and_split (fun h3 => ?_) (fun h3 => ?_)
   ·refine CALL_det (rR h3) (.inl rfl) ?_
    simp (maxSteps := 1000000) (disch := (first | omega | assumption)) only [go_sem]
    refine CALL_det (eqStr_fc _ hsx) (.inl rfl) ?_
    simp (maxSteps := 1000000) (disch := (first | omega | assumption)) only [go_sem]
    refine CALL_det (eqStr_fc _ hpx) (.inl rfl) ?_
    simp (maxSteps := 1000000) (disch := (first | omega | assumption)) only [go_sem]
    refine CALL_det (eqStr_fc _ hrl) (.inl rfl) ?_
    simp (maxSteps := 1000000) (disch := (first | omega | assumption)) only [go_sem]
    exact hT
   ·obtain ⟨e1, e2⟩ := nR h3
    subst e1; subst e2
    try simp (maxSteps := 1000000) (disch := (first | omega | assumption)) only [go_sem]
    refine CALL_det (eqStr_fc _ hsx) (.inl rfl) ?_
    simp (maxSteps := 1000000) (disch := (first | omega | assumption)) only [go_sem]
    refine CALL_det (eqStr_fc _ hpx) (.inl rfl) ?_
    simp (maxSteps := 1000000) (disch := (first | omega | assumption)) only [go_sem]
    refine CALL_det (eqStr_fc _ hrl) (.inl rfl) ?_
    simp (maxSteps := 1000000) (disch := (first | omega | assumption)) only [go_sem]
    exact hT
 ·obtain ⟨e1, e2⟩ := nS h1
  subst e1; subst e2
  try simp (maxSteps := 1000000) (disch := (first | omega | assumption)) only [go_sem]
  refine and_split (fun h2 => ?_) (fun h2 => ?_)
  ·refine CALL_det (rSh h2) (.inl rfl) ?_
   simp (maxSteps := 1000000) (disch := (first | omega | assumption)) only [go_sem]
   refine and_split (fun h3 => ?_) (fun h3 => ?_)
   ·refine CALL_det (rR h3) (.inl rfl) ?_
    simp (maxSteps := 1000000) (disch := (first | omega | assumption)) only [go_sem]
    refine CALL_det (eqStr_fc _ hsx) (.inl rfl) ?_
    simp (maxSteps := 1000000) (disch := (first | omega | assumption)) only [go_sem]
    refine CALL_det (eqStr_fc _ hpx) (.inl rfl) ?_
    simp (maxSteps := 1000000) (disch := (first | omega | assumption)) only [go_sem]
    refine CALL_det (eqStr_fc _ hrl) (.inl rfl) ?_
    simp (maxSteps := 1000000) (disch := (first | omega | assumption)) only [go_sem]
    exact hT
   ·obtain ⟨e1, e2⟩ := nR h3
    subst e1; subst e2
    try simp (maxSteps := 1000000) (disch := (first | omega | assumption)) only [go_sem]
    refine CALL_det (eqStr_fc _ hsx) (.inl rfl) ?_
    simp (maxSteps := 1000000) (disch := (first | omega | assumption)) only [go_sem]
    refine CALL_det (eqStr_fc _ hpx) (.inl rfl) ?_
    simp (maxSteps := 1000000) (disch := (first | omega | assumption)) only [go_sem]
    refine CALL_det (eqStr_fc _ hrl) (.inl rfl) ?_
    simp (maxSteps := 1000000) (disch := (first | omega | assumption)) only [go_sem]
    exact hT
  ·obtain ⟨e1, e2, e3⟩ := nSh h2
   subst e1; subst e2; subst e3
   try simp (maxSteps := 1000000) (disch := (first | omega | assumption)) only [go_sem]
   refine and_split (fun h3 => ?_) (fun h3 => ?_)
   ·refine CALL_det (rR h3) (.inl rfl) ?_
    simp (maxSteps := 1000000) (disch := (first | omega | assumption)) only [go_sem]
    refine CALL_det (eqStr_fc _ hsx) (.inl rfl) ?_
    simp (maxSteps := 1000000) (disch := (first | omega | assumption)) only [go_sem]
    refine CALL_det (eqStr_fc _ hpx) (.inl rfl) ?_
    simp (maxSteps := 1000000) (disch := (first | omega | assumption)) only [go_sem]
    refine CALL_det (eqStr_fc _ hrl) (.inl rfl) ?_
    simp (maxSteps := 1000000) (disch := (first | omega | assumption)) only [go_sem]
    exact hT
   ·obtain ⟨e1, e2⟩ := nR h3
    subst e1; subst e2
    try simp (maxSteps := 1000000) (disch := (first | omega | assumption)) only [go_sem]
    refine CALL_det (eqStr_fc _ hsx) (.inl rfl) ?_
    simp (maxSteps := 1000000) (disch := (first | omega | assumption)) only [go_sem]
    refine CALL_det (eqStr_fc _ hpx) (.inl rfl) ?_
    simp (maxSteps := 1000000) (disch := (first | omega | assumption)) only [go_sem]
    refine CALL_det (eqStr_fc _ hrl) (.inl rfl) ?_
    simp (maxSteps := 1000000) (disch := (first | omega | assumption)) only [go_sem]
    exact hT
abbrev xs5 : List ByteArray := [ByteArray.mk #[98, 49], ByteArray.mk #[98, 51], ByteArray.mk #[98, 53], ByteArray.mk #[122, 122], ByteArray.mk #[]]
abbrev ys5 : List ByteArray := [ByteArray.mk #[98, 49], ByteArray.mk #[98, 50], ByteArray.mk #[98, 52], ByteArray.mk #[122, 122], ByteArray.mk #[]]
abbrev xs2 : List ByteArray := [ByteArray.mk #[99, 51], ByteArray.mk #[99, 49]]
abbrev ys2 : List ByteArray := [ByteArray.mk #[99, 48], ByteArray.mk #[100, 49]]
theorem sz2 {l : List ByteArray} (h : l.all (fun b => decide (b.size ≤ 2)) = true) {b : ByteArray} (hb : b ∈ l) : b.size ≤ 1000000 := Nat.le_trans (of_decide_eq_true (List.all_eq_true.1 h b hb)) (by omega)
theorem smT_of {l : List Trf} (h : l.length ≤ 13) (hs : ∀ x ∈ l, x.sm) : SmT l := ⟨by omega, fun x hx => by have h := hs x hx; unfold Trf.sm at h; omega⟩
set_option maxHeartbeats 12000000 in
set_option maxRecDepth 8000 in
theorem mtr_fc (L : List Int) (hL : ∀ x ∈ L, I64 x) (hl : L.length ≤ 9223372036854775807) : FC Tryz.prog 3 none [ints false L] (fun _ r => r = bv true) := by
 refine fc_mtr (by simp +arith) ?_
 obtain ⟨⟨p1, r1⟩, ⟨c1, b1, l, hl13, hls, rfl⟩, hf1⟩ := trList_det L 0 hL hl (by omega) (by omega)
 simp only at b1 c1 hf1
 obtain ⟨⟨p2, r2⟩, ⟨c2, b2, x, hx, rfl⟩, hf2⟩ := some_det false xs5 (by simp) (by simp) L p1 hL hl (by omega) (by omega)
 simp only at b2 c2 hf2
 obtain ⟨⟨p3, r3⟩, ⟨c3, b3, y, hy, rfl⟩, hf3⟩ := some_det false ys5 (by simp) (by simp) L p2 hL hl (by omega) (by omega)
 simp only at b3 c3 hf3
 obtain ⟨⟨p4, r4⟩, ⟨c4, b4, n, d, hn, hd, rfl⟩, hf4⟩ := ashare_det L p3 hL hl (by omega) (by omega)
 simp only at b4 c4 hf4
 obtain ⟨⟨p5, r5⟩, ⟨c5, b5, bb, rfl⟩, hf5⟩ := flip_det 8 (by omega) (by omega) L p4 hL hl (by omega) (by omega)
 simp only at b5 c5 hf5
 have hsx := sz2 (l := xs5) (by kernel_rfl) hx
 have hsy := sz2 (l := ys5) (by kernel_rfl) hy
 have hT := fun (l : List Trf) (h13 : l.length ≤ 13) (hls : ∀ x ∈ l, x.sm) (x y : ByteArray) (hx : x.size ≤ 1000000) (hy : y.size ≤ 1000000) (p : Int) (hp : 0 ≤ p ∧ p ≤ 20000) => m5_ok L hL hl l (smT_of h13 hls) h13 x y hx hy n d hn hd p hp
 have kF0 := fun (l : List Trf) (h13 : l.length ≤ 13) (hls : ∀ x ∈ l, x.sm) => trF_fc l (by omega) (smT_of h13 hls).siz
 rw [m0_eq]
 generalize C_m5 = T at *
 simp only [C_mtr, acR, acL]
 unfold m5St strm at hT
 simp (maxSteps := 1000000) (disch := (first | omega | assumption)) only [go_sem]
 refine CALLX_det hf1 rfl rfl ?_
 unfold strm
 simp (maxSteps := 1000000) (disch := (first | omega | assumption)) only [go_sem]
 refine CALLX_det hf2 rfl rfl ?_
 unfold strm
 simp (maxSteps := 1000000) (disch := (first | omega | assumption)) only [go_sem]
 refine CALLX_det hf3 rfl rfl ?_
 unfold strm
 simp (maxSteps := 1000000) (disch := (first | omega | assumption)) only [go_sem]
 refine CALLX_det hf4 rfl rfl ?_
 unfold strm
 simp (maxSteps := 1000000) (disch := (first | omega | assumption)) only [go_sem]
 refine CALLX_det hf5 rfl rfl ?_
 unfold strm
 cases bb with
 | true =>
  obtain ⟨⟨p6, r6⟩, ⟨c6, b6, l2, hl2, hls2, rfl⟩, hf6⟩ := mny_det L p5 hL hl (by omega) (by omega)
  simp only at b6 c6 hf6
  obtain ⟨⟨p7, r7⟩, ⟨c7, b7, x2, hx2, rfl⟩, hf7⟩ := some_det false xs2 (by simp) (by simp) L p6 hL hl (by omega) (by omega)
  simp only at b7 c7 hf7
  obtain ⟨⟨p8, r8⟩, ⟨c8, b8, y2, hy2, rfl⟩, hf8⟩ := some_det false ys2 (by simp) (by simp) L p7 hL hl (by omega) (by omega)
  simp only at b8 c8 hf8
  have hsx2 := sz2 (l := xs2) (by kernel_rfl) hx2
  have hsy2 := sz2 (l := ys2) (by kernel_rfl) hy2
  simp (maxSteps := 1000000) (disch := (first | omega | assumption)) only [go_sem]
  refine CALLX_det hf6 rfl rfl ?_
  unfold strm
  simp (maxSteps := 1000000) (disch := (first | omega | assumption)) only [go_sem]
  refine CALLX_det hf7 rfl rfl ?_
  unfold strm
  simp (maxSteps := 1000000) (disch := (first | omega | assumption)) only [go_sem]
  refine CALLX_det hf8 rfl rfl ?_
  unfold strm
  simp (maxSteps := 1000000) (disch := (first | omega | assumption)) only [go_sem]
  refine CALL_det (kF0 l2 hl2 hls2) (.inl rfl) ?_
  rw [← ct_tf]
  simp (maxSteps := 1000000) (disch := (first | omega | assumption)) only [go_sem]
  exact hT l2 hl2 hls2 x2 y2 hsx2 hsy2 p8 ⟨by omega, by omega⟩
 | false =>
  simp (maxSteps := 1000000) (disch := (first | omega | assumption)) only [go_sem]
  refine CALL_det (kF0 l hl13 hls) (.inl rfl) ?_
  rw [← ct_tf]
  simp (maxSteps := 1000000) (disch := (first | omega | assumption)) only [go_sem]
  exact hT l hl13 hls x y hsx hsy p5 ⟨by omega, by omega⟩
end Go.Proofs.YtodmofhehabmgaaGreatDoor

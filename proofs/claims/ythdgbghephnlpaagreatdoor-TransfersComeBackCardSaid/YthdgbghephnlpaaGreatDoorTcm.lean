
/-
 TransfersComeBack: the walk.
-/
import Derived.Test.YthdgbghephnlpaaGreatDoorTtx
import Derived.Test.YthdgbghephnlpaaGreatDoorAcb
namespace Go.Proofs.YthdgbghephnlpaaGreatDoor
open Go Go.Ai
set_option linter.unusedSimpArgs false
set_option linter.unusedVariables false
set_option maxHeartbeats 4000000
def C_eqTrf : AC := (.seq (.reg false [gI 4 (.mv (.v (.bool false)))] (kP [0,1] [] []))
 (.seq (.seq (.reg false [gM 6 0,gI 7 (.len (.t 6)),gM 8 1,gI 9 (.len (.t 8)),gI 10 (.bin .neq (.t 7) (.t 9))] (kP [0,1,10] [] []))
 (.cond (.t 10)
 (.seq (.reg false [gI 4 (.mv (.v (.bool false)))] (kP [4] [] []))
 .ret)
 .skip))
 (.seq (.seq (.reg false [gM 11 0,gI 12 (.len (.t 11)),gI 13 (.mv (oI 0))] (kP [0,1,12,13] [] []))
 (.block 0 (.loop (.seq (.reg false [gI 14 (.bin .lss (.t 13) (.t 12))] (kP [0,1,12,13,14] [] []))
 (.seq (.cond (.t 14)
 .skip
 (.exit 0))
 (.seq (.block 1 (.seq (.reg false [gM 15 13,gM 5 15] (kP [0,1,5,12,13] [] []))
 (.seq (.reg true [gM 16 0,gM 17 5,gI 18 (.iadr 3 (.t 16) (.t 17)),gI 19 (.load true 3 (.t 18)),gM 20 1,gM 21 5,gI 22 (.iadr 3 (.t 20) (.t 21)),gI 23 (.load true 3 (.t 22)),gI 24 (.eqs true true [.s,.s,.i .i64] (.t 19) (.t 23))] (kP [0,1,12,13,24] [] []))
 (.cond (.t 24)
 (.seq (.reg false [gI 4 (.mv (.v (.bool false)))] (kP [4] [] []))
 .ret)
 .skip))))
 (.reg false [gI 25 (.bin .add (.t 13) (oI 1)),gM 13 25] (kP [0,1,12,13] [] []))))))))
 (.seq (.reg false [gI 4 (.mv (.v (.bool true)))] (kP [4] [] []))
 .ret))))
theorem fc_eqTrf : FcT Tryz.prog 25 Tryz.f25 C_eqTrf [.t 4] := fc_mk [aN [0,1] [] [],aN [0,1,10] [] [],aN [4] [] [],aN [0,1,12,13] [] [],aN [0,1,12,13,14] [] [],aN [0,1,5,12,13] [] [],aN [0,1,12,13,24] [] [],aN [4] [] [],aN [0,1,12,13] [] [],aN [4] [] []] Tryz.func25 (by kernel_rfl)
def C_tcm : AC := (.seq (.reg false [gI 2 (.mv (.v (.bool false)))] (kP [0] [] []))
 (.seq (.reg false [gM 16 0,gI 17 (.build [(.slice none 0 0),(.int .i64 (0))] [(0,1,(.t 16))]),gI 18 (.box (.t 17)),gM 3 18] (kP [3,18] [18] []))
 (.seq (.reg false [gM 19 3,gI 20 (.callx (.f 7) [(.t 19)]),gM 4 20] (kP [3,4,18] [18] []))
 (.seq (.reg false [gM 22 4,gI 23 (.call (.f 31) [(.t 22)]),gM 21 23,gI 24 (.extr (.t 21) 0),gI 25 (.extr (.t 21) 1),gM 5 24,gM 6 25] (kP [3,4,5,6,18] [18] []))
 (.seq (.reg false [gM 27 5,gI 28 (.call (.f 32) [(.t 27)]),gM 26 28,gI 29 (.extr (.t 26) 0),gI 30 (.extr (.t 26) 1),gI 31 (.extr (.t 26) 2),gM 7 29,gM 8 30,gM 9 31] (kP [3,4,6,7,9,18] [18] []))
 (.seq (.seq (.reg false [gM 32 6,gI 33 (.bin .neq (.t 32) (oI 0)),gM 34 33,gG 35 34 false (.mv (.t 9)),gG 36 34 false (.bin .neq (.t 35) (oI 0)),gI 37 (.pick (.t 34) (.v (.bool true)) (.t 36)),gM 38 37,gG 39 38 false (.mv (.t 7)),gG 40 38 false (.mv (.t 4)),gG 41 38 false (.call (.f 25) [(.t 39),(.t 40)]),gG 42 38 false (.un .not (.t 41)),gI 43 (.pick (.t 38) (.v (.bool true)) (.t 42))] (kP [3,18,43] [18] []))
 (.cond (.t 43)
 (.seq (.reg false [gI 2 (.mv (.v (.bool false)))] (kP [2] [] []))
 .ret)
 .skip))
 (.seq (.reg false [gM 44 3,gI 45 (.callx (.f 33) [(.t 44)]),gM 10 45] (kP [10] [] []))
 (.seq (.seq (.reg false [gM 47 10,gI 48 (.call (.f 32) [(.t 47)]),gM 46 48,gI 49 (.extr (.t 46) 0),gI 50 (.extr (.t 46) 1),gI 51 (.extr (.t 46) 2),gM 11 49,gM 12 50,gM 13 51] (kP [10,11,13] [] []))
 (.seq (.reg false [gM 52 13,gI 53 (.bin .eql (.t 52) (oI 0))] (kP [10,11,53] [] []))
 (.cond (.t 53)
 (.seq (.reg false [gM 55 11,gI 56 (.call (.f 31) [(.t 55)]),gM 54 56,gI 57 (.extr (.t 54) 0),gI 58 (.extr (.t 54) 1),gM 14 57,gM 15 58] (kP [10,14,15] [] []))
 (.seq (.reg false [gM 59 15,gI 60 (.bin .eql (.t 59) (oI 0)),gM 61 60,gG 62 61 true (.mv (.t 14)),gG 63 61 true (.mv (.t 10)),gG 64 61 true (.bin .eql (.t 62) (.t 63)),gI 65 (.pick (.t 61) (.t 64) (.v (.bool false))),gM 66 65,gG 67 66 true (.call (.f 14) []),gI 68 (.pick (.t 66) (.t 67) (.v (.bool false))),gM 2 68] (kP [2] [] []))
 .ret))
 .skip)))
 (.seq (.reg false [gI 69 (.call (.f 14) []),gM 2 69] (kP [2] [] []))
 .ret)))))))))
theorem fc_tcm : FcT Tryz.prog 6 Tryz.f6 C_tcm [.t 2] := fc_mk [aN [0] [] [],aN [3,18] [18] [],aN [3,4,18] [18] [],aN [3,4,5,6,18] [18] [],aN [3,4,6,7,9,18] [18] [],aN [3,18,43] [18] [],aN [2] [] [],aN [10] [] [],aN [10,11,13] [] [],aN [10,11,53] [] [],aN [10,14,15] [] [],aN [2] [] [],aN [2] [] []] Tryz.func6 (by kernel_rfl)
def eqTSt (l : List Trf) (i : Int) : AS := ⟨tabV [(0, trs false l), (1, trs false l), (12, iv l.length), (13, iv i)], tabO [], tabO []⟩
theorem eqTrf_fc (l : List Trf) (hl : l.length ≤ 1000000) : FC Tryz.prog 25 none [trs false l, trs false l] (fun _ r => r = bv true) := by
 refine fc_eqTrf (by simp +arith) ?_
 unfold C_eqTrf
 simp (maxSteps := 1000000) (disch := omega) only [go_sem]
 refine ex_loop1 (eqTSt l) (fun i => 0 ≤ i ∧ i ≤ l.length) (fun i => (l.length - i).toNat) 0 ⟨by omega, by omega⟩ rfl ?_
 rintro i ⟨g1, g2⟩
 unfold eqTSt
 by_cases hi : i < l.length
 ·simp (maxSteps := 1000000) (disch := omega) only [go_sem]
  exact ⟨_, rfl, ⟨by omega, by omega⟩, by omega⟩
 ·simp (maxSteps := 1000000) (disch := omega) only [go_sem]
section
variable {P : Program} {s : AS} {k : List KI} {kp : Option Keep} {l : List GI} {Q : AX → AS → Prop}
theorem callx_det {f : FuncId} {key : Nat} {cs0 cs : List Cel} {vargs : List Val} {d : Option Nat} {r : Val} (hf : FC P f (some cs0) vargs (fun cs' x => cs' = cs ∧ x = r)) (hr : dataRV r = true) (hc : cs.all dataRC = true)
  (h : rg P l kp k Q ({ s with bx := upd s.bx key (some cs) }.put d r)) : CALLX P f key cs0 vargs d l kp k Q s :=
 ⟨_, hf, ⟨cs, r, rfl, rfl⟩, fun _ _ hx => by obtain ⟨rfl, rfl⟩ := hx; exact ⟨hr, hc, h⟩⟩
end
set_option maxRecDepth 8000 in
theorem tcm_fc (L : List Int) (hL : ∀ x ∈ L, I64 x) (hl : L.length ≤ 9223372036854775807) : FC Tryz.prog 6 none [ints false L] (fun _ r => r = bv true) := by
 refine fc_tcm (by simp +arith) ?_
 obtain ⟨⟨p1, r1⟩, ⟨_, b1, l, hl0, hl3, hsl, rfl⟩, hf1⟩ := rightTr_det L 0 hL hl (by omega) (by omega)
 simp only at b1 hf1
 obtain ⟨⟨p2, r2⟩, ⟨c2, b2, s, hs, rfl⟩, hf2⟩ := trString_det L p1 hL hl (by omega) (by omega)
 simp only at b2 c2 hf2
 have hok := trfOk_of hl0
 have htl := textT_len l (trfW_of hok)
 have h1 := text_fc l (hl0)
 have h2 := readTr_fc (bS (textT l)) (by rw [bS_size]; omega)
 rw [bS_list, ttF_of hl0] at h2
 have h3 := readTr_fc s hs
 have h4 := @ttF_text s.data.toList
 have h5 : (ttF s.data.toList).2.2 = 0 → FC Tryz.prog 31 none [trs false (ttF s.data.toList).1] (fun _ r => r = .tu [sv s, iv 0]) := fun h => by
  have := text_fc (ttF s.data.toList).1 (h4 h).1
  rw [(h4 h).2.1] at this
  exact this
 clear h4
 generalize ttF s.data.toList = R at h3 h5
 generalize bS (textT l) = ta at h1 h2
 obtain ⟨x, j, e⟩ := R
 simp only at h3 h5
 unfold C_tcm
 simp (maxSteps := 1000000) (disch := omega) only [go_sem]
 refine callx_det hf1 rfl rfl ?_
 unfold strm
 simp (maxSteps := 1000000) (disch := omega) only [go_sem]
 refine CALL_det h1 (.inl rfl) ?_
 simp (maxSteps := 1000000) (disch := omega) only [go_sem]
 refine CALL_det h2 (.inl rfl) ?_
 simp (maxSteps := 1000000) (disch := omega) only [go_sem]
 refine CALL_det (eqTrf_fc l (by omega)) (.inl rfl) ?_
 simp (maxSteps := 1000000) (disch := omega) only [go_sem]
 refine callx_det hf2 rfl rfl ?_
 unfold strm
 simp (maxSteps := 1000000) (disch := omega) only [go_sem]
 refine CALL_det h3 (.inl rfl) ?_
 by_cases he : e = 0
 ·have h6 := h5 he
  subst he
  simp (maxSteps := 1000000) (disch := omega) only [go_sem]
  refine CALL_det h6 (.inl rfl) ?_
  simp (maxSteps := 1000000) (disch := omega) only [go_sem]
  refine CALL_det ready_fc (.inl rfl) ?_
  simp (maxSteps := 1000000) (disch := omega) only [go_sem]
 ·simp (maxSteps := 1000000) (disch := (first | omega | assumption)) only [go_sem]
  refine CALL_det ready_fc (.inl rfl) ?_
  simp (maxSteps := 1000000) (disch := omega) only [go_sem]
end Go.Proofs.YthdgbghephnlpaaGreatDoor

/-
 AlarmsChecked, walked.
-/
import Derived.Test.YtfgkpbkphmeigaaGreatDoorAmg
import Derived.Test.YtfgkpbkphmeigaaGreatDoorAlr
import Derived.Test.YtfgkpbkphmeigaaGreatDoorAst
import Derived.Test.YtfgkpbkphmeigaaGreatDoorHlm
import Derived.Test.YtfgkpbkphmeigaaGreatDoorChs
import Derived.Test.YtfgkpbkphmeigaaGreatDoorCeq
namespace Go.Proofs.YtfgkpbkphmeigaaGreatDoor
open Go Go.Ai
set_option linter.unusedSimpArgs false
set_option linter.unusedVariables false
set_option maxHeartbeats 4000000
def C_ack : AC := (.seq (.reg false [gI 2 (.mv (.v (.bool false)))] (kP [0] [] []))
 (.seq (.reg false [gM 21 0,gI 22 (.build [(.slice none 0 0),(.int .i64 (0))] [(0,1,(.t 21))]),gI 23 (.box (.t 22)),gM 3 23] (kP [3,23] [23] []))
 (.seq (.reg false [gM 24 3,gI 25 (.callx (.f 6) [(.t 24)]),gM 26 3,gI 27 (.callx (.f 7) [(.t 26),(oI 6)]),gM 28 3,gI 29 (.callx (.f 8) [(.t 28)]),gM 4 25,gM 5 27,gM 6 29] (kP [3,4,5,6,23] [23] [5001]))
 (.seq (.reg false [gM 30 6,gI 31 (.callm (.f 9) [(.t 30)] ⟨[],[],[],[5000],[]⟩),gM 7 31] (kP [3,4,5,6,23] [23] [5001]))
 (.seq (.seq (.reg false [gM 32 3,gI 33 (.callx (.f 10) [(.t 32),(oI 3)])] (kP [3,4,5,6,23,33] [23] [5001]))
 (.cond (.t 33)
 (.reg false [gM 34 3,gI 35 (.callm (.f 8) [(.t 34)] ⟨[23],[],[23],[5001],[]⟩),gM 7 35] (kP [3,4,5,6,7,23] [23] [5000,5001]))
 (.reg false [gM 37 3,gM 38 6,gI 39 (.callm (.f 11) [(.t 37),(.t 38)] ⟨[23],[],[23],[5001],[]⟩),gM 36 39,gI 40 (.extr (.t 36) 0),gI 41 (.extr (.t 36) 1),gM 6 40,gM 7 41] (kP [3,4,5,6,7,23] [23] [5000,5001]))))
 (.seq (.seq (.reg false [gM 42 7,gI 43 (.len (.t 42)),gI 44 (.bin .gtr (.t 43) (oI 0)),gM 45 44,gG 46 45 true (.mv (.t 3)),gG 47 45 true (.callx (.f 10) [(.t 46),(oI 6)]),gI 48 (.pick (.t 45) (.t 47) (.v (.bool false)))] (kP [3,4,5,6,7,23,48] [23] [5000,5001]))
 (.cond (.t 48)
 (.reg false [gM 49 7,gI 50 (.iadr 6 (.t 49) (oI 0)),gI 51 (.fadr 4 (.t 50)),gN (.store 1 (.t 51) (.v (.string (ByteArray.mk #[111,116,104,101,114]))))] (kP [3,4,5,6,7,23] [23] []))
 .skip))
 (.seq (.reg false [gM 52 4,gI 53 (.call (.f 12) [(.t 52)]),gM 54 6,gI 55 (.call (.f 13) [(.t 54)]),gM 8 53,gM 9 55] (kP [3,4,5,6,7,8,9,23] [23] []))
 (.seq (.seq (.reg false [gM 56 4,gI 57 (.call (.f 14) [(.t 56)]),gM 58 8,gI 59 (.bin .neq (.t 57) (.t 58)),gM 60 59,gG 61 60 false (.mv (.t 5)),gG 62 60 false (.call (.f 15) [(.t 61)]),gG 63 60 false (.mv (.t 5)),gG 64 60 false (.call (.f 16) [(.t 63)]),gG 65 60 false (.bin .neq (.t 62) (.t 64)),gI 66 (.pick (.t 60) (.v (.bool true)) (.t 65)),gM 67 66,gG 68 67 false (.mv (.t 6)),gG 69 67 false (.call (.f 17) [(.t 68)]),gG 70 67 false (.mv (.t 9)),gG 71 67 false (.bin .neq (.t 69) (.t 70)),gI 72 (.pick (.t 67) (.v (.bool true)) (.t 71))] (kP [3,4,6,7,8,9,23,72] [23] []))
 (.cond (.t 72)
 (.seq (.reg false [gI 2 (.mv (.v (.bool false)))] (kP [2] [] []))
 .ret)
 .skip))
 (.seq (.reg false [gM 74 6,gM 75 7,gI 76 (.call (.f 18) [(.t 74),(.t 75)]),gM 73 76,gI 77 (.extr (.t 73) 0),gI 78 (.extr (.t 73) 1),gM 10 77,gM 11 78] (kP [3,4,6,7,8,9,10,11,23] [23] []))
 (.seq (.reg false [gM 79 9,gM 80 7,gI 81 (.call (.f 13) [(.t 80)]),gI 82 (.bslice 1 2 [(.t 79),(.t 81)]),gI 83 (.call (.f 19) [(.t 82)]),gM 12 83] (kP [3,4,6,7,8,10,11,12,23] [23] []))
 (.seq (.seq (.reg false [gI 13 (.mv (.v (.slice none 0 0)))] (kP [3,4,6,7,8,10,11,12,13,23] [23] []))
 (.ty 13 6))
 (.seq (.seq (.reg false [gM 84 12,gI 85 (.bin .eql (.t 84) (oI 0))] (kP [3,4,6,7,8,10,11,12,13,23,85] [23] []))
 (.cond (.t 85)
 (.reg false [gM 87 6,gM 88 7,gI 89 (.call (.f 20) [(.t 87),(.t 88)]),gM 86 89,gI 90 (.extr (.t 86) 0),gI 91 (.extr (.t 86) 1),gM 13 90,gM 12 91] (kP [3,4,8,10,11,12,13,23] [23] []))
 .skip))
 (.seq (.seq (.reg false [gM 92 11,gM 93 12,gI 94 (.bin .neq (.t 92) (.t 93)),gM 95 94,gG 96 95 false (.mv (.t 10)),gG 97 95 false (.mv (.t 13)),gG 98 95 false (.call (.f 21) [(.t 96),(.t 97)]),gG 99 95 false (.un .not (.t 98)),gI 100 (.pick (.t 95) (.v (.bool true)) (.t 99))] (kP [3,4,8,23,100] [23] []))
 (.cond (.t 100)
 (.seq (.reg false [gI 2 (.mv (.v (.bool false)))] (kP [2] [] []))
 .ret)
 .skip))
 (.seq (.reg false [gM 102 4,gI 103 (.call (.f 22) [(.t 102)]),gM 101 103,gI 104 (.extr (.t 101) 0),gI 105 (.extr (.t 101) 1),gM 14 104,gM 11 105] (kP [3,4,8,11,14,23] [23] []))
 (.seq (.seq (.reg false [gM 106 11,gM 107 8,gI 108 (.bin .neq (.t 106) (.t 107)),gM 109 108,gG 110 109 false (.mv (.t 8)),gG 111 109 false (.bin .eql (.t 110) (oI 0)),gG 112 109 false (.mv (.t 111)),gG 113 112 true (.mv (.t 14)),gG 114 112 true (.mv (.t 4)),gG 115 112 true (.call (.f 23) [(.t 114)]),gG 116 112 true (.bin .neq (.t 113) (.t 115)),gG 117 109 false (.pick (.t 112) (.t 116) (.v (.bool false))),gI 118 (.pick (.t 109) (.v (.bool true)) (.t 117)),gM 119 118,gG 120 119 false (.mv (.t 8)),gG 121 119 false (.bin .neq (.t 120) (oI 0)),gG 122 119 false (.mv (.t 121)),gG 123 122 true (.mv (.t 14)),gG 124 122 true (.bin .neq (.t 123) (.v (.string (ByteArray.mk #[])))),gG 125 119 false (.pick (.t 122) (.t 124) (.v (.bool false))),gI 126 (.pick (.t 119) (.v (.bool true)) (.t 125))] (kP [3,23,126] [23] []))
 (.cond (.t 126)
 (.seq (.reg false [gI 2 (.mv (.v (.bool false)))] (kP [2] [] []))
 .ret)
 .skip))
 (.seq (.reg false [gM 127 3,gI 128 (.callx (.f 24) [(.t 127)]),gM 14 128] (kP [14] [] []))
 (.seq (.reg false [gM 130 14,gI 131 (.call (.f 25) [(.t 130)]),gM 129 131,gI 132 (.extr (.t 129) 0),gI 133 (.extr (.t 129) 1),gI 134 (.extr (.t 129) 2),gM 15 132,gM 16 133,gM 17 134] (kP [14,15,16,17] [] []))
 (.seq (.reg false [gM 136 14,gI 137 (.call (.f 26) [(.t 136)]),gM 135 137,gI 138 (.extr (.t 135) 0),gI 139 (.extr (.t 135) 1),gI 140 (.extr (.t 135) 2),gM 18 138,gM 19 139,gM 20 140] (kP [15,16,17,18,19,20] [] []))
 (.seq (.reg false [gM 141 17,gM 142 20,gI 143 (.bin .eql (.t 141) (.t 142)),gM 144 143,gG 145 144 true (.mv (.t 16)),gG 146 144 true (.mv (.t 19)),gG 147 144 true (.bin .eql (.t 145) (.t 146)),gI 148 (.pick (.t 144) (.t 147) (.v (.bool false))),gM 149 148,gG 150 149 true (.mv (.t 15)),gG 151 149 true (.mv (.t 18)),gG 152 149 true (.call (.f 27) [(.t 150),(.t 151)]),gI 153 (.pick (.t 149) (.t 152) (.v (.bool false))),gM 154 153,gG 155 154 true (.call (.f 28) []),gI 156 (.pick (.t 154) (.t 155) (.v (.bool false))),gM 2 156] (kP [2] [] []))
 .ret)))))))))))))))))))
theorem fc_ack : FcT Tryz.prog 3 Tryz.f3 C_ack [.t 2] := fc_mk [aN [0] [] [],aN [3,23] [23] [],aN [3,4,5,6,23] [23] [5001],⟨(kP [3,4,5,6,23] [23] [5001]),[],[],[],[(31,⟨[],[],[],[5000],[]⟩)]⟩,aN [3,4,5,6,23,33] [23] [5001],⟨(kP [3,4,5,6,7,23] [23] [5000,5001]),[],[],[],[(35,⟨[23],[],[23],[5001],[]⟩)]⟩,⟨(kP [3,4,5,6,7,23] [23] [5000,5001]),[],[],[],[(39,⟨[23],[],[23],[5001],[]⟩)]⟩,aN [3,4,5,6,7,23,48] [23] [5000,5001],aN [3,4,5,6,7,23] [23] [],aN [3,4,5,6,7,8,9,23] [23] [],aN [3,4,6,7,8,9,23,72] [23] [],aN [2] [] [],aN [3,4,6,7,8,9,10,11,23] [23] [],aN [3,4,6,7,8,10,11,12,23] [23] [],⟨(kP [3,4,6,7,8,10,11,12,13,23] [23] []),[],[],[(13,6)],[]⟩,aN [3,4,6,7,8,10,11,12,13,23,85] [23] [],aN [3,4,8,10,11,12,13,23] [23] [],aN [3,4,8,23,100] [23] [],aN [2] [] [],aN [3,4,8,11,14,23] [23] [],aN [3,23,126] [23] [],aN [2] [] [],aN [14] [] [],aN [14,15,16,17] [] [],aN [15,16,17,18,19,20] [] [],aN [2] [] []] Tryz.func3 (by kernel_rfl)
def acL : AC → AC
 | .seq a _ => a
 | c => c
def acR : AC → AC
 | .seq _ b => b
 | c => c
/-- What is done when the acts are drawn. -/
def C_mid : AC := acR (acR (acR (acR (acR C_ack))))
theorem ack_eq : C_ack = .seq (acL C_ack) (.seq (acL (acR C_ack)) (.seq (acL (acR (acR C_ack))) (.seq (acL (acR (acR (acR C_ack)))) (.seq (acL (acR (acR (acR (acR C_ack))))) C_mid)))) := rfl
/-- What is done when one act has perhaps been turned. -/
def C_tail : AC := acR C_mid
theorem mid_eq : C_mid = .seq (acL C_mid) C_tail := rfl
def ckSt (L : List Int) (a : List Alm) (t : List Ser) (x y : List Opr) (p : Int) : AS := ⟨tabV [(3, .one (.bx 23 0)), (4, alms true a), (5, sers true t), (6, oprs true x), (7, .one (.ow 5001 0)), (23, .one (.bx 23 0)), (48, bv false)], tabO [(23, strm L p)], tabO [(5001, opRow y)]⟩
def ckDt (L : List Int) (a : List Alm) (t : List Ser) (x y : List Opr) (p : Int) : AS := ⟨tabV [(3, .one (.bx 23 0)), (4, alms true a), (5, sers true t), (6, oprs true x), (7, oprs true y), (23, .one (.bx 23 0))], tabO [(23, strm L p)], tabO []⟩
def ckMt (L : List Int) (a : List Alm) (t : List Ser) (x y : List Opr) (p : Int) : AS := ⟨tabV [(3, .one (.bx 23 0)), (4, alms true a), (5, sers true t), (6, oprs true x), (7, .one (.ow 5001 0)), (23, .one (.bx 23 0))], tabO [(23, strm L p)], tabO [(5001, opRow y)]⟩
/-- What is done when the acts are compared. -/
def C_txt : AC := acR (acR (acR (acR (acR (acR (acR C_tail))))))
theorem tail_eq : C_tail = .seq (acL C_tail) (.seq (acL (acR C_tail)) (.seq (acL (acR (acR C_tail))) (.seq (acL (acR (acR (acR C_tail)))) (.seq (acL (acR (acR (acR (acR C_tail))))) (.seq (acL (acR (acR (acR (acR (acR C_tail)))))) (.seq (acL (acR (acR (acR (acR (acR (acR C_tail))))))) C_txt)))))) := rfl
def ctSt (L : List Int) (a : List Alm) (p : Int) : AS := ⟨tabV [(3, .one (.bx 23 0)), (4, alms true a), (8, iv (caF a)), (23, .one (.bx 23 0)), (100, bv false)], tabO [(23, strm L p)], tabO []⟩
theorem rdF_len (s : ByteArray) : (rdF s.data.toList).1.length ≤ 1000000 := by
 unfold rdF
 by_cases c : s.data.toList.length > 200000
 ·rw [if_pos c]; simp
 ·rw [if_neg c]
  have h0 := szL s
  have h1 := linesA_len s
  have h2 := (eachA_size (linesA s.data.toList).2 s.size (linesA s.data.toList).1 0 [] (linesA_size s) (fun x hx => by cases hx)).2
  have h3 : (rdT s.data.toList).1.length ≤ 1000000 := by unfold rdT; simp only [List.length_nil] at h2; omega
  split
  ·simp
  ·split
   ·simp
   ·exact h3
set_option maxHeartbeats 12000000 in
set_option maxRecDepth 8000 in
theorem txt_ok (L : List Int) (hL : ∀ x ∈ L, I64 x) (hl : L.length ≤ 9223372036854775807) (a : List Alm) (ha : a.length ≤ 3) (hsa : ∀ x ∈ a, x.sm) (p : Int) (hp : 0 ≤ p ∧ p ≤ 20000) : ex Tryz.prog C_txt [] (fpost none [RV.t 2] fun x r => r = bv true) (ctSt L a p) := by
 obtain ⟨⟨p2, r2⟩, ⟨c2, b2, s, hs, rfl⟩, hf2⟩ := alarmString_det L p hL hl (by omega) (by omega)
 simp only at b2 c2 hf2
 have hsa2 : ∀ z ∈ a, z.k.size ≤ 1000000 ∧ z.t.size ≤ 1000000 := fun z hz => by have h := hsa z hz; unfold Alm.sm at h; omega
 have k10 := read_fc s hs
 have k11 := alRead_fc s hs
 rw [rrF_is _ caF_eq] at k11
 have hrl := rdF_len s
 generalize hR : rdF s.data.toList = R at *
 obtain ⟨ra, rj, re⟩ := R
 simp only at k10 k11 hrl
 have kt0 : caF a = 0 → FC Tryz.prog 22 none [alms false a] (fun _ r => r = .tu [sv (bS (textA a)), iv 0]) := fun h => text_fc a h
 have kt1 : caF a ≠ 0 → FC Tryz.prog 22 none [alms false a] (fun _ r => r = .tu [sv emp, iv (caF a)]) := fun h => text_ko a (by omega) hsa2 h
 have ktr : caF a = 0 → FC Tryz.prog 23 none [alms false a] (fun _ r => r = sv (bS (textA a))) := fun h => alines_fc a (almOk_ca h)
 unfold ctSt
 generalize caF a = fa at *
 generalize bS (textA a) = ta at *
 clear hR hsa hsa2
 unfold C_txt C_tail C_mid strm
 simp only [C_ack, acR]
 by_cases h0 : fa = 0
 ·have k1 := kt0 h0
  have k2 := ktr h0
  subst h0
  clear kt0 kt1 ktr
  simp (maxSteps := 1000000) (disch := (first | omega | assumption)) only [go_sem]
  refine CALL_det k1 (.inl rfl) ?_
  simp (maxSteps := 1000000) (disch := (first | omega | assumption)) only [go_sem]
  refine CALL_det k2 (.inl rfl) ?_
  simp (maxSteps := 1000000) (disch := (first | omega | assumption)) only [go_sem]
  refine CALLX_det hf2 rfl rfl ?_
  unfold strm
  simp (maxSteps := 1000000) (disch := (first | omega | assumption)) only [go_sem]
  refine CALL_det k10 (.inl rfl) ?_
  simp (maxSteps := 1000000) (disch := (first | omega | assumption)) only [go_sem]
  refine CALL_det k11 (.inl rfl) ?_
  simp (maxSteps := 1000000) (disch := (first | omega | assumption)) only [go_sem]
  refine CALL_det (eqAlm_fc ra (by omega)) (.inl rfl) ?_
  simp (maxSteps := 1000000) (disch := (first | omega | assumption)) only [go_sem]
  refine CALL_det alarmed_fc (.inl rfl) ?_
  simp (maxSteps := 1000000) (disch := (first | omega | assumption)) only [go_sem]
 ·have k1 := kt1 h0
  clear kt0 kt1 ktr
  simp (maxSteps := 1000000) (disch := (first | omega | assumption)) only [go_sem]
  refine CALL_det k1 (.inl rfl) ?_
  simp (maxSteps := 1000000) (disch := (first | omega | assumption)) only [go_sem]
  refine CALLX_det hf2 rfl rfl ?_
  unfold strm
  simp (maxSteps := 1000000) (disch := (first | omega | assumption)) only [go_sem]
  refine CALL_det k10 (.inl rfl) ?_
  simp (maxSteps := 1000000) (disch := (first | omega | assumption)) only [go_sem]
  refine CALL_det k11 (.inl rfl) ?_
  simp (maxSteps := 1000000) (disch := (first | omega | assumption)) only [go_sem]
  refine CALL_det (eqAlm_fc ra (by omega)) (.inl rfl) ?_
  simp (maxSteps := 1000000) (disch := (first | omega | assumption)) only [go_sem]
  refine CALL_det alarmed_fc (.inl rfl) ?_
  simp (maxSteps := 1000000) (disch := (first | omega | assumption)) only [go_sem]
set_option maxHeartbeats 12000000 in
set_option maxRecDepth 8000 in
theorem tail_ok (L : List Int) (hL : ∀ x ∈ L, I64 x) (hl : L.length ≤ 9223372036854775807) (a : List Alm) (ha : a.length ≤ 3) (hsa : ∀ x ∈ a, x.sm) (t : List Ser) (ht : t.length ≤ 2) (hst : ∀ x ∈ t, x.sm 6)
  (x y : List Opr) (hx : x.length ≤ 8) (hsx : ∀ z ∈ x, z.sm) (hy : y.length ≤ 8) (hsy : ∀ z ∈ y, z.sm) (p : Int) (hp : 0 ≤ p ∧ p ≤ 20000) (st : AS) (hS : st = ckSt L a t x y p ∨ st = ckDt L a t x y p) : ex Tryz.prog C_tail [] (fpost none [RV.t 2] fun x r => r = bv true) st := by
 have hT := txt_ok L hL hl a ha hsa p hp
 have k1 := alarmsFault_fc a (by omega) hsa
 have hsa2 : ∀ z ∈ a, z.k.size ≤ 1000000 ∧ z.t.size ≤ 1000000 := fun z hz => by have h := hsa z hz; unfold Alm.sm at h; omega
 have hst2 : ∀ z ∈ t, z.t.size ≤ 1000 ∧ z.l.length ≤ 1000000 := fun z hz => by have h := hst z hz; unfold Ser.sm at h; omega
 have k2 := checkAlarmsG_fc a (by omega) hsa2
 have k3 := ractsF_fc x (by omega) hsx
 have k4 := checkAllG_fc t (by omega) hst2
 have k5 := allFault_fc t (by omega) hst2
 have k6 := checkActsG_fc x (by omega) hsx
 have k7 := mrgX_fc x y hsx hsy (by omega)
 have k8 := ractsF_fc y (by omega) hsy
 have k9 := orE_fc false [ofF x, ofF y] (by simp)
 have k12 : ofF x = 0 → ofF y = 0 → FC Tryz.prog 20 none [oprs false x, oprs false y] (fun _ r => r = .tu [oprs true (mgE x y).1, iv (mgE x y).2]) := fun h1 h2 => amg_fc x y hsx hsy (actOk_of h1) (actOk_of h2) (by omega) (by omega)
 have hml : (mgE x y).1.length ≤ 1000 := by
  unfold mgE
  have := outM_len x y
  split
  ·simp
  ·split
   ·simp
   ·simp only; omega
 have hor : orSp [ofF x, ofF y] = if ofF x ≠ 0 then ofF x else ofF y := by
  unfold orSp
  split
  ·rfl
  ·unfold orSp
   split
   ·rfl
   ·rename_i h; unfold orSp; omega
 rw [← caF_eq] at k1
 unfold ctSt at hT
 generalize caF a = fa at *
 generalize asF t = ft at *
 rw [hor] at k9
 generalize hM : mgE x y = M at *
 obtain ⟨ml, me⟩ := M
 generalize ofF x = fx at *
 generalize ofF y = fy at *
 simp only at k7 k12 hml
 clear hM hor hsa hsa2 hst hst2 hsx hsy
 rw [tail_eq]
 generalize C_txt = T at *
 unfold C_tail C_mid
 simp only [C_ack, acR, acL]
 unfold strm at hT
 unfold ckSt ckDt strm at hS
 rcases hS with rfl | rfl
 all_goals (
  simp (maxSteps := 1000000) (disch := (first | omega | assumption)) only [go_sem]
  refine CALL_det k1 (.inl rfl) ?_
  simp (maxSteps := 1000000) (disch := (first | omega | assumption)) only [go_sem]
  refine CALL_det k3 (.inl rfl) ?_
  simp (maxSteps := 1000000) (disch := (first | omega | assumption)) only [go_sem]
  refine CALL_det k2 (.inl rfl) ?_
  simp (maxSteps := 1000000) (disch := (first | omega | assumption)) only [go_sem]
  refine CALL_det k4 (.inl rfl) ?_
  simp (maxSteps := 1000000) (disch := (first | omega | assumption)) only [go_sem]
  refine CALL_det k5 (.inl rfl) ?_
  simp (maxSteps := 1000000) (disch := (first | omega | assumption)) only [go_sem]
  refine CALL_det k6 (.inl rfl) ?_
  simp (maxSteps := 1000000) (disch := (first | omega | assumption)) only [go_sem]
  by_cases h1 : fx ≠ 0
  ·rw [if_pos h1] at k9
   simp only [if_pos h1] at k7
   refine CALL_det k7 (.inl rfl) ?_
   simp (maxSteps := 1000000) (disch := (first | omega | assumption)) only [go_sem]
   refine CALL_det k8 (.inl rfl) ?_
   simp (maxSteps := 1000000) (disch := (first | omega | assumption)) only [go_sem]
   refine CALL_det k9 (.inl rfl) ?_
   simp (maxSteps := 1000000) (disch := (first | omega | assumption)) only [go_sem]
   refine CALL_det (eqOpr_fc [] (by simp)) (.inl rfl) ?_
   simp (maxSteps := 1000000) (disch := (first | omega | assumption)) only [go_sem]
   exact hT
  have h1 : fx = 0 := Classical.not_not.1 h1
  by_cases h2 : fy ≠ 0
  ·rw [if_neg (fun h => h h1)] at k9
   simp only [if_neg (show ¬fx ≠ 0 from fun h => h h1), if_pos h2] at k7
   refine CALL_det k7 (.inl rfl) ?_
   simp (maxSteps := 1000000) (disch := (first | omega | assumption)) only [go_sem]
   refine CALL_det k8 (.inl rfl) ?_
   simp (maxSteps := 1000000) (disch := (first | omega | assumption)) only [go_sem]
   refine CALL_det k9 (.inl rfl) ?_
   simp (maxSteps := 1000000) (disch := (first | omega | assumption)) only [go_sem]
   refine CALL_det (eqOpr_fc [] (by simp)) (.inl rfl) ?_
   simp (maxSteps := 1000000) (disch := (first | omega | assumption)) only [go_sem]
   exact hT
  ·have h2 : fy = 0 := Classical.not_not.1 h2
   have k13 := k12 h1 h2
   rw [if_neg (fun h => h h1)] at k9
   simp only [if_neg (show ¬fx ≠ 0 from fun h => h h1), if_neg (show ¬fy ≠ 0 from fun h => h h2)] at k7
   refine CALL_det k7 (.inl rfl) ?_
   simp (maxSteps := 1000000) (disch := (first | omega | assumption)) only [go_sem]
   refine CALL_det k8 (.inl rfl) ?_
   simp (maxSteps := 1000000) (disch := (first | omega | assumption)) only [go_sem]
   refine CALL_det k9 (.inl rfl) ?_
   simp (maxSteps := 1000000) (disch := (first | omega | assumption)) only [go_sem]
   refine CALL_det k13 (.inl rfl) ?_
   simp (maxSteps := 1000000) (disch := (first | omega | assumption)) only [go_sem]
   refine CALL_det (eqOpr_fc ml (by omega)) (.inl rfl) ?_
   simp (maxSteps := 1000000) (disch := (first | omega | assumption)) only [go_sem]
   exact hT)
def othW : ByteArray := ByteArray.mk #[111, 116, 104, 101, 114]
set_option maxHeartbeats 12000000 in
set_option maxRecDepth 8000 in
theorem mid_ok (L : List Int) (hL : ∀ x ∈ L, I64 x) (hl : L.length ≤ 9223372036854775807) (a : List Alm) (ha : a.length ≤ 3) (hsa : ∀ x ∈ a, x.sm) (t : List Ser) (ht : t.length ≤ 2) (hst : ∀ x ∈ t, x.sm 6)
  (x y : List Opr) (hx : x.length ≤ 8) (hsx : ∀ z ∈ x, z.sm) (hy : y.length ≤ 8) (hsy : ∀ z ∈ y, z.sm) (p : Int) (hp : 0 ≤ p ∧ p ≤ 19000) : ex Tryz.prog C_mid [] (fpost none [RV.t 2] fun x r => r = bv true) (ckMt L a t x y p) := by
 obtain ⟨⟨pb, rb⟩, ⟨hab, hbb, bb, rfl⟩, hfb⟩ := (flip_det 6 (by omega) (by omega)) L p hL hl (by omega) (by omega)
 simp only at hab hbb hfb
 have hT := fun (y' : List Opr) (h1 : y'.length ≤ 8) (h2 : ∀ z ∈ y', z.sm) (q : Int) (h3 : 0 ≤ q ∧ q ≤ 20000) => tail_ok L hL hl a ha hsa t ht hst x y' hx hsx h1 h2 q h3 _ (.inl rfl)
 have hD := fun (y' : List Opr) (h1 : y'.length ≤ 8) (h2 : ∀ z ∈ y', z.sm) (q : Int) (h3 : 0 ≤ q ∧ q ≤ 20000) => tail_ok L hL hl a ha hsa t ht hst x y' hx hsx h1 h2 q h3 _ (.inr rfl)
 rw [mid_eq]
 generalize C_tail = T at *
 unfold C_mid
 simp only [C_ack, acR, acL]
 unfold ckSt strm at hT
 unfold ckDt strm at hD
 unfold ckMt strm
 by_cases h0 : 0 < y.length
 ·simp (maxSteps := 1000000) (disch := (first | omega | assumption)) only [go_sem]
  refine CALLX_det hfb rfl rfl ?_
  unfold strm
  cases bb with
  | false =>
   simp (maxSteps := 1000000) (disch := (first | omega | assumption)) only [go_sem]
   exact hT y hy hsy pb ⟨by omega, by omega⟩
  | true =>
   have eo := getE_map_in oprS y 0 h0
   have hsm := hsy _ (getD_mem y 0 h0)
   have h2 := hD (y.set 0 { y.getD 0 default with al := othW }) (by simp; omega) (opr_set hsy ⟨hsm.1, of_decide_eq_true (by kernel_rfl), hsm.2.2⟩) pb ⟨by omega, by omega⟩
   have e1 : (List.map oprS y).set (Int.toNat 0) [.g (.string (y.getD (Int.toNat 0) default).b), .g (.int .i64 (y.getD (Int.toNat 0) default).no), .g (.int .i64 (y.getD (Int.toNat 0) default).at_), .g (.int .i64 (y.getD (Int.toNat 0) default).kd), .g (.string (ByteArray.mk #[111, 116, 104, 101, 114])), .g (.int .i64 (y.getD (Int.toNat 0) default).un)] = List.map oprS (y.set 0 { y.getD 0 default with al := othW }) := by
    rw [List.map_set]; rfl
   simp (maxSteps := 1000000) (disch := (first | omega | assumption)) only [go_sem]
   trace_state
   have e2 := frE_opr2 (y.set 0 { y.getD 0 default with al := othW })
   rw [← e1] at e2
   rw [e2, e1]
   exact h2
 ·simp (maxSteps := 1000000) (disch := (first | omega | assumption)) only [go_sem]
  exact hT y hy hsy p ⟨by omega, by omega⟩
set_option maxHeartbeats 12000000 in
set_option maxRecDepth 8000 in
theorem ack_fc (L : List Int) (hL : ∀ x ∈ L, I64 x) (hl : L.length ≤ 9223372036854775807) : FC Tryz.prog 3 none [ints false L] (fun _ r => r = bv true) := by
 refine fc_ack (by simp +arith) ?_
 obtain ⟨⟨p1, r1⟩, ⟨c1, b1, a, ha, hsa, rfl⟩, hf1⟩ := alarmList_det L 0 hL hl (by omega) (by omega)
 simp only at b1 c1 hf1
 obtain ⟨⟨p2, r2⟩, ⟨c2, b2, t, ht, hst, rfl⟩, hf2⟩ := tagList_det 6 (by omega) (by omega) L p1 hL hl (by omega) (by omega)
 simp only at b2 c2 hf2
 obtain ⟨⟨p3, r3⟩, ⟨c3, b3, x, hx, hsx, rfl⟩, hf3⟩ := actList_det L p2 hL hl (by omega) (by omega)
 simp only at b3 c3 hf3
 obtain ⟨⟨p4, r4⟩, ⟨c4, b4, bb, rfl⟩, hf4⟩ := flip_det 3 (by omega) (by omega) L p3 hL hl (by omega) (by omega)
 simp only at b4 c4 hf4
 have hT := fun (x' y' : List Opr) (g1 : x'.length ≤ 8) (g2 : ∀ z ∈ x', z.sm) (h1 : y'.length ≤ 8) (h2 : ∀ z ∈ y', z.sm) (q : Int) (h3 : 0 ≤ q ∧ q ≤ 19000) => mid_ok L hL hl a ha hsa t ht hst x' y' g1 g2 h1 h2 q h3
 rw [ack_eq]
 generalize C_mid = T at *
 simp only [C_ack, acR, acL]
 unfold ckMt strm at hT
 simp (maxSteps := 1000000) (disch := (first | omega | assumption)) only [go_sem]
 refine CALLX_det hf1 rfl rfl ?_
 unfold strm
 simp (maxSteps := 1000000) (disch := (first | omega | assumption)) only [go_sem]
 refine CALLX_det hf2 rfl rfl ?_
 unfold strm
 simp (maxSteps := 1000000) (disch := (first | omega | assumption)) only [go_sem]
 refine CALLX_det hf3 rfl rfl ?_
 unfold strm
 simp (maxSteps := 1000000) (disch := (first | omega | assumption)) only [go_sem]
 refine ⟨rfl, CALLM_det (cloneA_fcm false x (by omega)) ⟨rfl, rfl⟩ ?_⟩
 simp (maxSteps := 1000000) (disch := (first | omega | assumption)) only [go_sem]
 refine CALLX_det hf4 rfl rfl ?_
 unfold strm
 cases bb with
 | true =>
  simp (maxSteps := 1000000) (disch := (first | omega | assumption)) only [go_sem]
  refine ⟨rfl, CALLM_RnA (Go.Ai.swp 23 1000000) (Go.Ai.swp 3 5001) (Go.Ai.swp_swp 23 1000000) (Go.Ai.swp_swp 3 5001) (actRow_fcm L p4 hL hl (by omega) (by omega)) (by simp) rfl rfl rfl ⟨_, _, p4, [], by omega, by omega, by simp, by simp, rfl, rfl⟩ ?_⟩
  rintro _ _ ⟨q, y, h1, h2, h3, h4, rfl, rfl⟩
  refine ⟨.inl ⟨rfl, rfl⟩, ?_⟩
  have er : (⟨[(1000000, strm L q)], [(3, opRow y)]⟩ : Hp).rn (Go.Ai.swp 23 1000000) (Go.Ai.swp 3 5001) = ⟨[(23, strm L q)], [(5001, opRow y)]⟩ := rfl
  have ev : rnV (Go.Ai.swp 23 1000000) (Go.Ai.swp 3 5001) (.one (.ow 3 0)) = .one (.ow 5001 0) := rfl
  rw [er, ev]
  unfold strm
  simp (maxSteps := 1000000) (disch := (first | omega | assumption)) only [go_sem]
  exact hT x y hx hsx h3 h4 q ⟨by omega, by omega⟩
 | false =>
  simp (maxSteps := 1000000) (disch := (first | omega | assumption)) only [go_sem]
  refine ⟨rfl, CALLM_RnA (Go.Ai.swp 23 1000000) (Go.Ai.swp 5 5001) (Go.Ai.swp_swp 23 1000000) (Go.Ai.swp_swp 5 5001) (halfA_fcm L p4 hL hl (by omega) (by omega) x (by omega) hsx) (by simp) rfl rfl rfl ⟨_, _, p4, [], [], by omega, by omega, by simp, by simp, by simp, by simp, rfl, rfl⟩ ?_⟩
  rintro _ _ ⟨q, u, y, h1, h2, h3, h4, h5, h6, rfl, rfl⟩
  refine ⟨.inl ⟨rfl, rfl⟩, ?_⟩
  have er : (⟨[(1000000, strm L q)], [(5, opRow y)]⟩ : Hp).rn (Go.Ai.swp 23 1000000) (Go.Ai.swp 5 5001) = ⟨[(23, strm L q)], [(5001, opRow y)]⟩ := rfl
  have ev : rnV (Go.Ai.swp 23 1000000) (Go.Ai.swp 5 5001) (.tu [oprs true u, .one (.ow 5 0)]) = .tu [oprs true u, .one (.ow 5001 0)] := rfl
  rw [er, ev]
  unfold strm
  simp (maxSteps := 1000000) (disch := (first | omega | assumption)) only [go_sem]
  exact hT u y (by omega) h5 (by omega) h6 q ⟨by omega, by omega⟩
end Go.Proofs.YtfgkpbkphmeigaaGreatDoor

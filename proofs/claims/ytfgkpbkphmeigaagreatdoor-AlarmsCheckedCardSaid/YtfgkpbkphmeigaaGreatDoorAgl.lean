/-
 Alarms that streams draw: one list from one stream.
 Series of tags that streams draw: one list from one stream.
-/
import Derived.Test.YtfgkpbkphmeigaaGreatDoorGdt
import Derived.Test.YtfgkpbkphmeigaaGreatDoorAlw
import Derived.Test.YtfgkpbkphmeigaaGreatDoorAlx
namespace Go.Proofs.YtfgkpbkphmeigaaGreatDoor
open Go Go.Ai
set_option linter.unusedSimpArgs false
set_option linter.unusedVariables false
set_option maxHeartbeats 4000000
def C_alarmList : AC := (.seq (.reg false [gI 2 (.mv (.v (.slice none 0 0)))] (kP [0] [0] []))
 (.seq (.seq (.reg false [gI 3 (.mv (.v (.slice none 0 0)))] (kP [0,3] [0] []))
 (.own 3 54 10))
 (.seq (.seq (.reg false [gI 8 (.bslice 1 3 [(.v (.string (ByteArray.mk #[97,49]))),(.v (.string (ByteArray.mk #[97,50]))),(.v (.string (ByteArray.mk #[97,51])))]),gM 9 0,gI 10 (.callx (.f 70) [(.t 9),(oI 0),(oI 3)]),gI 11 (.slc 1 (.t 8) none (some (.t 10))),gI 12 (.len (.t 11)),gI 13 (.mv (oI 0))] (kP [0,3,11,12,13] [0] [3]))
 (.block 0 (.loop (.seq (.reg false [gI 14 (.bin .lss (.t 13) (.t 12))] (kP [0,3,11,12,13,14] [0] [3]))
 (.seq (.cond (.t 14)
 .skip
 (.exit 0))
 (.seq (.block 1 (.seq (.reg false [gM 15 13,gI 16 (.iadr 1 (.t 11) (.t 13)),gI 17 (.load false 1 (.t 16)),gM 4 15,gM 5 17] (kP [0,3,4,5,11,12,13] [0] [3]))
 (.seq (.reg false [gM 18 5,gM 19 0,gI 20 (.bslice 1 4 [(.v (.string (ByteArray.mk #[112,49,95,116,101,109,112]))),(.v (.string (ByteArray.mk #[112,49,95,116,101,109,112]))),(.v (.string (ByteArray.mk #[112,50,95,116,101,109,112]))),(.v (.string (ByteArray.mk #[110,111])))]),gI 21 (.callx (.f 30) [(.t 19),(.t 20)]),gM 22 0,gI 23 (.bslice 1 5 [(oI 1),(oI 1),(oI 1),(oI 2),(oI 3)]),gI 24 (.callx (.f 55) [(.t 22),(.t 23)]),gM 25 0,gI 26 (.bslice 1 4 [(oI 0),(oI 0),(oI 5),(oI 20)]),gI 27 (.callx (.f 55) [(.t 25),(.t 26)]),gM 28 0,gI 29 (.bslice 1 3 [(oI 0),(oI 0),(oI 5)]),gI 30 (.callx (.f 55) [(.t 28),(.t 29)]),gM 31 0,gI 32 (.bslice 1 3 [(oI 1),(oI 2),(oI 2)]),gI 33 (.callx (.f 55) [(.t 31),(.t 32)]),gM 34 0,gI 35 (.callx (.f 10) [(.t 34),(oI 2)]),gI 36 (.build [(.string (ByteArray.mk #[])),(.string (ByteArray.mk #[])),(.int .i64 (0)),(.int .i64 (0)),(.int .i64 (0)),(.int .i64 (0)),(.int .i64 (0)),(.int .i64 (0)),(.bool false),(.string (ByteArray.mk #[]))] [(0,1,(.t 18)),(1,1,(.t 21)),(2,1,(.t 24)),(5,1,(.t 27)),(6,1,(.t 30)),(7,1,(.t 33)),(8,1,(.t 35))]),gI 6 (.alloc [(.string (ByteArray.mk #[])),(.string (ByteArray.mk #[])),(.int .i64 (0)),(.int .i64 (0)),(.int .i64 (0)),(.int .i64 (0)),(.int .i64 (0)),(.int .i64 (0)),(.bool false),(.string (ByteArray.mk #[]))]),gN (.store 10 (.t 6) (.t 36))] (kP [0,3,4,6,11,12,13] [0,6] [3]))
 (.seq (.seq (.reg false [gI 37 (.fadr 2 (.t 6)),gI 38 (.load false 1 (.t 37)),gI 39 (.bin .neq (.t 38) (oI 3))] (kP [0,3,4,6,11,12,13,39] [0,6] [3]))
 (.cond (.t 39)
 (.reg false [gM 40 0,gI 41 (.bslice 1 3 [(oI 3),(oI 5),(oI 8)]),gI 42 (.callx (.f 55) [(.t 40),(.t 41)]),gM 43 0,gI 44 (.bslice 1 4 [(oI 0),(oI 0),(oI 1),(oI 3)]),gI 45 (.callx (.f 55) [(.t 43),(.t 44)]),gI 46 (.fadr 3 (.t 6)),gN (.store 1 (.t 46) (.t 42)),gI 47 (.fadr 4 (.t 6)),gN (.store 1 (.t 47) (.t 45))] (kP [0,3,4,6,11,12,13] [0,6] [3]))
 .skip))
 (.seq (.seq (.reg false [gM 48 4,gI 49 (.bin .gtr (.t 48) (oI 0)),gM 50 49,gG 51 50 true (.mv (.t 0)),gG 52 50 true (.callx (.f 10) [(.t 51),(oI 3)]),gI 53 (.pick (.t 50) (.t 52) (.v (.bool false)))] (kP [0,3,4,6,11,12,13,53] [0,6] [3]))
 (.cond (.t 53)
 (.reg false [gI 54 (.bslice 1 2 [(.v (.string (ByteArray.mk #[97,49]))),(.v (.string (ByteArray.mk #[97,50])))]),gM 55 0,gM 56 4,gI 57 (.callx (.f 71) [(.t 55),(.t 56)]),gI 58 (.iadr 1 (.t 54) (.t 57)),gI 59 (.load false 1 (.t 58)),gI 60 (.fadr 9 (.t 6)),gN (.store 1 (.t 60) (.t 59))] (kP [0,3,6,11,12,13] [0,6] [3]))
 .skip))
 (.reg false [gM 61 3,gI 62 (.load true 10 (.t 6)),gI 63 (.bslice 10 1 [(.t 62)]),gI 64 (.append 54 10 104 (.t 61) (.t 63)),gM 3 64] (kP [0,3,11,12,13] [0] [3])))))))
 (.reg false [gI 65 (.bin .add (.t 13) (oI 1)),gM 13 65] (kP [0,3,11,12,13] [0] [3]))))))))
 (.seq (.seq (.reg false [gM 66 3,gI 67 (.len (.t 66)),gI 68 (.bin .gtr (.t 67) (oI 0)),gM 69 68,gG 70 69 true (.mv (.t 0)),gG 71 69 true (.callx (.f 10) [(.t 70),(oI 12)]),gI 72 (.pick (.t 69) (.t 71) (.v (.bool false)))] (kP [0,3,72] [0] [3]))
 (.cond (.t 72)
 (.seq (.reg false [gM 73 3,gM 74 0,gM 75 3,gI 76 (.len (.t 75)),gI 77 (.callx (.f 71) [(.t 74),(.t 76)]),gI 78 (.iadr 10 (.t 73) (.t 77)),gM 7 78] (kP [0,3,7] [0] [3]))
 (.seq (.reg false [gM 79 0,gI 80 (.callx (.f 71) [(.t 79),(oI 4)])] (kP [0,3,7,80] [0] [3]))
 (.block 2 (.seq (.reg false [gI 92 (.bin .eql (.t 80) (oI 0)),gM 91 92] (kP [0,3,7,80,91] [0] [3]))
 (.cond (.t 91)
 (.reg true [gM 93 7,gM 94 7,gM 95 0,gM 96 7,gI 97 (.nilchk (.t 96)),gI 98 (.fadr 0 (.t 97)),gI 99 (.load false 1 (.t 98)),gI 100 (.bslice 1 3 [(.t 99),(.v (.string (ByteArray.mk #[]))),(.v (.string (ByteArray.mk #[97,49])))]),gN (.chk (.t 95) (some 0)),gI 101 (.callx (.f 30) [(.t 95),(.t 100)]),gM 102 0,gM 103 7,gN (.chk (.t 103) (some 999999999)),gI 104 (.nilchk (.t 103)),gN (.chk (.t 104) (some 999999999)),gI 105 (.fadr 1 (.t 104)),gN (.chk (.t 105) (some 999999999)),gI 106 (.load false 1 (.t 105)),gI 107 (.bslice 1 2 [(.t 106),(.v (.string (ByteArray.mk #[65])))]),gI 108 (.callx (.f 30) [(.t 102),(.t 107)]),gI 109 (.nilchk (.t 93)),gI 110 (.fadr 0 (.t 109)),gN (.store 1 (.t 110) (.t 101)),gI 111 (.nilchk (.t 94)),gI 112 (.fadr 1 (.t 111)),gN (.store 1 (.t 112) (.t 108))] (kP [3] [0] []))
 (.seq (.reg false [gI 114 (.bin .eql (.t 80) (oI 1)),gM 113 114] (kP [0,3,7,80,113] [0] [3]))
 (.cond (.t 113)
 (.reg false [gM 115 7,gM 116 7,gM 117 0,gI 118 (.callx (.f 72) [(.t 117),(oI 1),(oI 3)]),gM 119 0,gI 120 (.callx (.f 72) [(.t 119),(oI (-1000000)),(oI 1000000)]),gI 121 (.nilchk (.t 115)),gI 122 (.fadr 2 (.t 121)),gN (.store 1 (.t 122) (.t 118)),gI 123 (.nilchk (.t 116)),gI 124 (.fadr 3 (.t 123)),gN (.store 1 (.t 124) (.t 120))] (kP [3] [0] []))
 (.seq (.reg false [gI 126 (.bin .eql (.t 80) (oI 2)),gM 125 126] (kP [0,3,7,125] [0] [3]))
 (.cond (.t 125)
 (.reg false [gM 127 7,gM 128 7,gM 129 0,gI 130 (.callx (.f 72) [(.t 129),(oI 0),(oI 86400000)]),gM 131 0,gI 132 (.callx (.f 72) [(.t 131),(oI 1),(oI 1000)]),gI 133 (.nilchk (.t 127)),gI 134 (.fadr 5 (.t 133)),gN (.store 1 (.t 134) (.t 130)),gI 135 (.nilchk (.t 128)),gI 136 (.fadr 7 (.t 135)),gN (.store 1 (.t 136) (.t 132))] (kP [3] [0] []))
 (.reg false [gM 81 7,gM 82 0,gM 83 7,gI 84 (.nilchk (.t 83)),gI 85 (.fadr 0 (.t 84)),gI 86 (.load false 1 (.t 85)),gI 87 (.bslice 1 4 [(.v (.string (ByteArray.mk #[122,122]))),(.t 86),(.v (.string (ByteArray.mk #[97,49]))),(.v (.string (ByteArray.mk #[97,51])))]),gI 88 (.callx (.f 30) [(.t 82),(.t 87)]),gI 89 (.nilchk (.t 81)),gI 90 (.fadr 9 (.t 89)),gN (.store 1 (.t 90) (.t 88))] (kP [3] [0] [])))))))))))
 .skip))
 (.seq (.reg false [gM 137 3,gM 2 137] (kP [2] [0] []))
 .ret)))))
theorem fc_alarmList : FcT Tryz.prog 6 Tryz.f6 C_alarmList [.t 2] := fc_mk [aN [0] [0] [],⟨(kP [0,3] [0] []),[(3,54,10)],[],[],[]⟩,aN [0,3,11,12,13] [0] [3],aN [0,3,11,12,13,14] [0] [3],aN [0,3,4,5,11,12,13] [0] [3],aN [0,3,4,6,11,12,13] [0,6] [3],aN [0,3,4,6,11,12,13,39] [0,6] [3],aN [0,3,4,6,11,12,13] [0,6] [3],aN [0,3,4,6,11,12,13,53] [0,6] [3],aN [0,3,6,11,12,13] [0,6] [3],aN [0,3,11,12,13] [0] [3],aN [0,3,11,12,13] [0] [3],aN [0,3,72] [0] [3],aN [0,3,7] [0] [3],aN [0,3,7,80] [0] [3],aN [0,3,7,80,91] [0] [3],⟨(kP [3] [0] []),[],[(8,(some 0)),(11,(some 999999999)),(12,(some 999999999)),(13,(some 999999999))],[],[]⟩,aN [0,3,7,80,113] [0] [3],aN [3] [0] [],aN [0,3,7,125] [0] [3],aN [3] [0] [],aN [3] [0] [],aN [2] [0] []] Tryz.func6 (by kernel_rfl)
def C_rightAlarms : AC := (.seq (.reg false [gI 2 (.mv (.v (.slice none 0 0)))] (kP [0] [0] []))
 (.seq (.seq (.reg false [gI 4 (.mv (oI 0))] (kP [0,4] [0] []))
 (.block 0 (.loop (.seq (.reg false [gI 5 (.bin .lss (.t 4) (oI 6))] (kP [0,4,5] [0] []))
 (.seq (.cond (.t 5)
 .skip
 (.exit 0))
 (.seq (.block 1 (.seq (.reg false [gM 6 0,gI 7 (.callx (.f 6) [(.t 6)]),gM 3 7] (kP [0,3,4] [0] []))
 (.seq (.reg false [gM 8 3,gI 9 (.call (.f 12) [(.t 8)]),gI 10 (.bin .eql (.t 9) (oI 0))] (kP [0,3,4,10] [0] []))
 (.cond (.t 10)
 (.seq (.reg false [gM 11 3,gM 2 11] (kP [2] [0] []))
 .ret)
 .skip))))
 (.reg false [gI 12 (.bin .add (.t 4) (oI 1)),gM 4 12] (kP [0,4] [0] []))))))))
 (.seq (.seq (.reg false [gI 2 (.mv (.v (.slice none 0 0)))] (kP [2] [0] []))
 (.ty 2 10))
 .ret)))
theorem fc_rightAlarms : FcT Tryz.prog 102 Tryz.f102 C_rightAlarms [.t 2] := fc_mk [aN [0] [0] [],aN [0,4] [0] [],aN [0,4,5] [0] [],aN [0,3,4] [0] [],aN [0,3,4,10] [0] [],aN [2] [0] [],aN [0,4] [0] [],⟨(kP [2] [0] []),[],[],[(2,10)],[]⟩] Tryz.func102 (by kernel_rfl)
abbrev almRow (l : List Alm) : Row := ⟨0, 54, 10, l.map almS⟩
theorem frE_alm (l : List Alm) : frE (l.map almS) = true := by
 unfold frE
 rw [List.all_eq_true]
 intro e he
 obtain ⟨x, _, rfl⟩ := List.mem_map.1 he
 rfl
attribute [go_sem] frE_alm
theorem getE_set_mapA {α β : Type} (f : α → β) (l : List α) (i : Nat) (x : β) (h : i < l.length) : ((l.map f).set i x)[i]? = some x := by
 rw [List.getElem?_set_self (by simpa using h)]
theorem set_map_setA {α β : Type} (f : α → β) (l : List α) (i : Nat) (x y : β) : ((l.map f).set i x).set i y = (l.map f).set i y := by simp
attribute [go_sem] getE_set_mapA set_map_setA
def keyB1 : ByteArray := ByteArray.mk #[97, 49]
def keyB2 : ByteArray := ByteArray.mk #[97, 50]
def keyB3 : ByteArray := ByteArray.mk #[97, 51]
def keysA : List ByteArray := [keyB1, keyB2, keyB3]
def parsA : List ByteArray := [keyB1, keyB2]
def tagsA : List ByteArray := [ByteArray.mk #[112, 49, 95, 116, 101, 109, 112], ByteArray.mk #[112, 49, 95, 116, 101, 109, 112], ByteArray.mk #[112, 50, 95, 116, 101, 109, 112], ByteArray.mk #[110, 111]]
theorem ek3 : ([[Cel.g (.string (ByteArray.mk #[97, 49]))], [.g (.string (ByteArray.mk #[97, 50]))], [.g (.string (ByteArray.mk #[97, 51]))]] : List (List Cel)) = keysA.map strC := (rfl)
theorem ek2 : ([[Cel.g (.string (ByteArray.mk #[97, 49]))], [.g (.string (ByteArray.mk #[97, 50]))]] : List (List Cel)) = parsA.map strC := (rfl)
theorem sms (l : List ByteArray) (h : l.all (fun b => decide (b.size ≤ 1000)) = true) : ∀ b ∈ l, b.size ≤ 1000 := fun b hb => of_decide_eq_true (List.all_eq_true.1 h b hb)
structure AlX where
 i : Int
 q : Int
 l : List Alm
abbrev ksA (n : Int) : List (List Cel) := (keysA.map strC).take n.toNat
def alSt (L : List Int) (n : Int) (x : AlX) : AS := ⟨tabV [(0, .one (.bx 0 0)), (3, .one (.ow 3 0)), (11, .one (.sl true 1 (ksA n))), (12, iv (ksA n).length), (13, iv x.i)], tabO [(0, strm L x.q)], tabO [(3, almRow x.l)]⟩
theorem ksA_len {n : Int} (h0 : 0 ≤ n) (h : n ≤ 3) : ((ksA n).length : Int) = n := by
 unfold ksA; rw [List.length_take, List.length_map]; have : keysA.length = 3 := rfl; omega
theorem ksA_at {n i : Int} (h0 : 0 ≤ i) (hi : i < n) (h : n ≤ 3) : (ksA n).getD i.toNat [] = [.g (.string (keysA.getD i.toNat default))] := by
 unfold ksA
 have h3 : keysA.length = 3 := rfl
 rw [List.getD_eq_getElem?_getD, List.getElem?_take, if_pos (by omega), ← List.getD_eq_getElem?_getD]
 exact getD_str keysA i h0 (by omega)
theorem keysA_sm (i : Int) (h0 : 0 ≤ i) (h : i < 3) : (keysA.getD i.toNat default).size ≤ 1000 := sms keysA (by kernel_rfl) _ (getD_memB _ _ (by have : keysA.length = 3 := rfl; omega))
theorem parsA_sm (i : Int) (h0 : 0 ≤ i) (h : i < 2) : (parsA.getD i.toNat default).size ≤ 1000 := sms parsA (by kernel_rfl) _ (getD_memB _ _ (by have : parsA.length = 2 := rfl; omega))
theorem emp_sm : (ByteArray.mk #[]).size ≤ 1000 := of_decide_eq_true (by kernel_rfl)
theorem sm_app {l : List Alm} {x : Alm} (h : ∀ y ∈ l, y.sm) (hx : x.sm) : ∀ y ∈ l ++ [x], y.sm := fun y hy => by
 rcases List.mem_append.1 hy with hy | hy
 ·exact h y hy
 ·simp at hy; subst hy; exact hx
theorem sm_set {l : List Alm} {x : Alm} {k : Nat} (h : ∀ y ∈ l, y.sm) (hx : x.sm) : ∀ y ∈ l.set k x, y.sm := fun y hy => by
 rcases List.mem_or_eq_of_mem_set hy with hy | rfl
 ·exact h y hy
 ·exact hx
set_option maxHeartbeats 12000000 in
set_option maxRecDepth 8000 in
theorem alarmList_det : GenD Tryz.prog 6 [] 100 (fun r => ∃ l : List Alm, l.length ≤ 3 ∧ (∀ x ∈ l, x.sm) ∧ r = alms true l) := by
 refine genD_of (fun L p R' h => fc_alarmList (xt := some (strm L p)) (args := []) (R := R') (by simp +arith) h) ?_
 intro L p hL hl h0 hp
 unfold C_alarmList strm
 simp (maxSteps := 1000000) (disch := omega) only [go_sem]
 obtain ⟨⟨pa, ra⟩, ⟨haa, hba, za, ka, na, rfl⟩, hfa⟩ := (range_det 0 3 (by omega) (by omega) (by omega)) L p hL hl (by omega) (by omega)
 simp only at haa hba hfa
 refine exX hfa rfl rfl ?_
 unfold strm
 simp (maxSteps := 1000000) (disch := omega) only [go_sem]
 have hkl := ksA_len ka na
 rw [ek3]
 refine loopD (alSt L za) (fun x => 0 ≤ x.i ∧ x.i ≤ za ∧ x.l.length = x.i ∧ p ≤ x.q ∧ x.q ≤ p + 1 + 20 * x.i ∧ ∀ y ∈ x.l, y.sm) (fun x => (za - x.i).toNat) ⟨0, pa, []⟩ ⟨by simp, by simp; omega, by simp, by simp; omega, by simp; omega, by simp⟩ rfl ?_
 rintro G ⟨i, q, l⟩ ⟨g1, g2, g3, g4, g5, g6⟩ IH
 simp only at g1 g2 g3 g4 g5 g6
 unfold alSt strm
 by_cases hi : i < za
 ·have em := ksA_at g1 hi na
  have ksm := keysA_sm i g1 (by omega)
  simp (maxSteps := 1000000) (disch := omega) only [go_sem]
  rw [em]
  simp (maxSteps := 1000000) (disch := omega) only [go_sem]
  obtain ⟨⟨pb, rb⟩, ⟨hab, hbb, zb, kb, rfl⟩, hfb⟩ := (some_det false tagsA (of_decide_eq_true (by kernel_rfl)) (of_decide_eq_true (by kernel_rfl))) L q hL hl (by omega) (by omega)
  simp only at hab hbb hfb
  refine exX hfb rfl rfl ?_
  unfold strm
  simp (maxSteps := 1000000) (disch := (first | omega | assumption)) only [go_sem]
  have tsm := sms tagsA (by kernel_rfl) _ kb
  obtain ⟨⟨pc, rc⟩, ⟨hac, hbc, zc, kc, rfl⟩, hfc⟩ := (pick_det false [1, 1, 1, 2, 3] (by simp) (by simp)) L pb hL hl (by omega) (by omega)
  simp only at hac hbc hfc
  refine exX hfc rfl rfl ?_
  unfold strm
  simp (maxSteps := 1000000) (disch := (first | omega | assumption)) only [go_sem]
  obtain ⟨⟨pd, rd⟩, ⟨had, hbd, zd, kd, rfl⟩, hfd⟩ := (pick_det false [0, 0, 5, 20] (by simp) (by simp)) L pc hL hl (by omega) (by omega)
  simp only at had hbd hfd
  refine exX hfd rfl rfl ?_
  unfold strm
  simp (maxSteps := 1000000) (disch := (first | omega | assumption)) only [go_sem]
  obtain ⟨⟨pe, re⟩, ⟨hae, hbe, ze, ke, rfl⟩, hfe⟩ := (pick_det false [0, 0, 5] (by simp) (by simp)) L pd hL hl (by omega) (by omega)
  simp only at hae hbe hfe
  refine exX hfe rfl rfl ?_
  unfold strm
  simp (maxSteps := 1000000) (disch := (first | omega | assumption)) only [go_sem]
  obtain ⟨⟨pf, rf⟩, ⟨haf, hbf, zf, kf, rfl⟩, hff⟩ := (pick_det false [1, 2, 2] (by simp) (by simp)) L pe hL hl (by omega) (by omega)
  simp only at haf hbf hff
  refine exX hff rfl rfl ?_
  unfold strm
  simp (maxSteps := 1000000) (disch := (first | omega | assumption)) only [go_sem]
  obtain ⟨⟨pg, rg⟩, ⟨hag, hbg, bg, rfl⟩, hfg⟩ := (flip_det 2 (by omega) (by omega)) L pf hL hl (by omega) (by omega)
  simp only at hag hbg hfg
  by_cases hc3 : zc = 3
  ·
   by_cases hi0 : 0 < i
   ·
    refine exX hfg rfl rfl ?_
    unfold strm
    simp (maxSteps := 1000000) (disch := (first | omega | assumption)) only [go_sem]
    obtain ⟨⟨pm, rm⟩, ⟨ham, hbm, bm, rfl⟩, hfm⟩ := (flip_det 3 (by omega) (by omega)) L pg hL hl (by omega) (by omega)
    simp only at ham hbm hfm
    cases bm with
    | true =>
     refine exX hfm rfl rfl ?_
     unfold strm
     simp (maxSteps := 1000000) (disch := (first | omega | assumption)) only [go_sem]
     obtain ⟨⟨pn, rn⟩, ⟨han, hbn, zn, kn, nn, rfl⟩, hfn⟩ := (next_det i (by omega) (by omega)) L pm hL hl (by omega) (by omega)
     simp only at han hbn hfn
     have em2 := getD_str parsA zn kn (by have : parsA.length = 2 := rfl; omega)
     have psm := parsA_sm zn kn (by omega)
     have hp2 : parsA.length = 2 := rfl
     refine exX hfn rfl rfl ?_
     unfold strm
     rw [ek2]
     simp (maxSteps := 1000000) (disch := omega) only [go_sem]
     simp only [strC_eq]
     simp (maxSteps := 1000000) (disch := omega) only [go_sem]
     obtain ⟨yy, hB, hG⟩ := IH ⟨i + 1, pn, l ++ [⟨keysA.getD i.toNat default, zb, zc, 0, 0, zd, ze, zf, bg, parsA.getD zn.toNat default⟩]⟩ ⟨by simp only; omega, by simp only; omega, by simp only [List.length_append, List.length_singleton]; omega, by simp only; omega, by simp only; omega, sm_app g6 ⟨ksm, tsm, psm⟩⟩ (by simp only; omega)
     exact ⟨yy, hB, _, by simp only [alSt, strm, almRow, List.map_append, List.map_cons, List.map_nil, almS_eq], by simp only; omega, hG⟩
    | false =>
     refine exX hfm rfl rfl ?_
     unfold strm
     simp (maxSteps := 1000000) (disch := (first | omega | assumption)) only [go_sem]
     obtain ⟨yy, hB, hG⟩ := IH ⟨i + 1, pm, l ++ [⟨keysA.getD i.toNat default, zb, zc, 0, 0, zd, ze, zf, bg, ByteArray.mk #[]⟩]⟩ ⟨by simp only; omega, by simp only; omega, by simp only [List.length_append, List.length_singleton]; omega, by simp only; omega, by simp only; omega, sm_app g6 ⟨ksm, tsm, emp_sm⟩⟩ (by simp only; omega)
     exact ⟨yy, hB, _, by simp only [alSt, strm, almRow, List.map_append, List.map_cons, List.map_nil, almS_eq], by simp only; omega, hG⟩
   ·
    refine exX hfg rfl rfl ?_
    unfold strm
    simp (maxSteps := 1000000) (disch := (first | omega | assumption)) only [go_sem]
    obtain ⟨yy, hB, hG⟩ := IH ⟨i + 1, pg, l ++ [⟨keysA.getD i.toNat default, zb, zc, 0, 0, zd, ze, zf, bg, ByteArray.mk #[]⟩]⟩ ⟨by simp only; omega, by simp only; omega, by simp only [List.length_append, List.length_singleton]; omega, by simp only; omega, by simp only; omega, sm_app g6 ⟨ksm, tsm, emp_sm⟩⟩ (by simp only; omega)
    exact ⟨yy, hB, _, by simp only [alSt, strm, almRow, List.map_append, List.map_cons, List.map_nil, almS_eq], by simp only; omega, hG⟩
  ·
   refine exX hfg rfl rfl ?_
   unfold strm
   simp (maxSteps := 1000000) (disch := (first | omega | assumption)) only [go_sem]
   obtain ⟨⟨ph, rh⟩, ⟨hah, hbh, zh, kh, rfl⟩, hfh⟩ := (pick_det false [3, 5, 8] (by simp) (by simp)) L pg hL hl (by omega) (by omega)
   simp only at hah hbh hfh
   refine exX hfh rfl rfl ?_
   unfold strm
   simp (maxSteps := 1000000) (disch := (first | omega | assumption)) only [go_sem]
   obtain ⟨⟨pj, rj⟩, ⟨haj, hbj, zj, kj, rfl⟩, hfj⟩ := (pick_det false [0, 0, 1, 3] (by simp) (by simp)) L ph hL hl (by omega) (by omega)
   simp only at haj hbj hfj
   by_cases hi0 : 0 < i
   ·
    refine exX hfj rfl rfl ?_
    unfold strm
    simp (maxSteps := 1000000) (disch := (first | omega | assumption)) only [go_sem]
    obtain ⟨⟨pm, rm⟩, ⟨ham, hbm, bm, rfl⟩, hfm⟩ := (flip_det 3 (by omega) (by omega)) L pj hL hl (by omega) (by omega)
    simp only at ham hbm hfm
    cases bm with
    | true =>
     refine exX hfm rfl rfl ?_
     unfold strm
     simp (maxSteps := 1000000) (disch := (first | omega | assumption)) only [go_sem]
     obtain ⟨⟨pn, rn⟩, ⟨han, hbn, zn, kn, nn, rfl⟩, hfn⟩ := (next_det i (by omega) (by omega)) L pm hL hl (by omega) (by omega)
     simp only at han hbn hfn
     have em2 := getD_str parsA zn kn (by have : parsA.length = 2 := rfl; omega)
     have psm := parsA_sm zn kn (by omega)
     have hp2 : parsA.length = 2 := rfl
     refine exX hfn rfl rfl ?_
     unfold strm
     rw [ek2]
     simp (maxSteps := 1000000) (disch := omega) only [go_sem]
     simp only [strC_eq]
     simp (maxSteps := 1000000) (disch := omega) only [go_sem]
     obtain ⟨yy, hB, hG⟩ := IH ⟨i + 1, pn, l ++ [⟨keysA.getD i.toNat default, zb, zc, zh, zj, zd, ze, zf, bg, parsA.getD zn.toNat default⟩]⟩ ⟨by simp only; omega, by simp only; omega, by simp only [List.length_append, List.length_singleton]; omega, by simp only; omega, by simp only; omega, sm_app g6 ⟨ksm, tsm, psm⟩⟩ (by simp only; omega)
     exact ⟨yy, hB, _, by simp only [alSt, strm, almRow, List.map_append, List.map_cons, List.map_nil, almS_eq], by simp only; omega, hG⟩
    | false =>
     refine exX hfm rfl rfl ?_
     unfold strm
     simp (maxSteps := 1000000) (disch := (first | omega | assumption)) only [go_sem]
     obtain ⟨yy, hB, hG⟩ := IH ⟨i + 1, pm, l ++ [⟨keysA.getD i.toNat default, zb, zc, zh, zj, zd, ze, zf, bg, ByteArray.mk #[]⟩]⟩ ⟨by simp only; omega, by simp only; omega, by simp only [List.length_append, List.length_singleton]; omega, by simp only; omega, by simp only; omega, sm_app g6 ⟨ksm, tsm, emp_sm⟩⟩ (by simp only; omega)
     exact ⟨yy, hB, _, by simp only [alSt, strm, almRow, List.map_append, List.map_cons, List.map_nil, almS_eq], by simp only; omega, hG⟩
   ·
    refine exX hfj rfl rfl ?_
    unfold strm
    simp (maxSteps := 1000000) (disch := (first | omega | assumption)) only [go_sem]
    obtain ⟨yy, hB, hG⟩ := IH ⟨i + 1, pj, l ++ [⟨keysA.getD i.toNat default, zb, zc, zh, zj, zd, ze, zf, bg, ByteArray.mk #[]⟩]⟩ ⟨by simp only; omega, by simp only; omega, by simp only [List.length_append, List.length_singleton]; omega, by simp only; omega, by simp only; omega, sm_app g6 ⟨ksm, tsm, emp_sm⟩⟩ (by simp only; omega)
    exact ⟨yy, hB, _, by simp only [alSt, strm, almRow, List.map_append, List.map_cons, List.map_nil, almS_eq], by simp only; omega, hG⟩
 ·clear IH
  have ei : i = za := by omega
  have g7 : q ≤ p + 61 := by omega
  by_cases hn : 0 < l.length
  ·simp (maxSteps := 1000000) (disch := (first | omega | assumption)) only [go_sem]
   obtain ⟨⟨pb, rb⟩, ⟨hab, hbb, bb, rfl⟩, hfb⟩ := (flip_det 12 (by omega) (by omega)) L q hL hl (by omega) (by omega)
   simp only at hab hbb hfb
   cases bb with
   | false =>
    refine exX hfb rfl rfl ?_
    unfold strm
    simp (maxSteps := 1000000) (disch := (first | omega | assumption)) only [go_sem]
    exact ⟨(pb, _), ⟨by simp only; omega, by simp only; omega, l, by omega, g6, rfl⟩, rfl, rfl⟩
   | true =>
    refine exX hfb rfl rfl ?_
    unfold strm
    simp (maxSteps := 1000000) (disch := (first | omega | assumption)) only [go_sem]
    obtain ⟨⟨pc, rc⟩, ⟨hac, hbc, zc, kc, nc, rfl⟩, hfc⟩ := (next_det l.length (by omega) (by omega)) L pb hL hl (by omega) (by omega)
    simp only at hac hbc hfc
    refine exX hfc rfl rfl ?_
    unfold strm
    simp (maxSteps := 1000000) (disch := (first | omega | assumption)) only [go_sem]
    have eo := getE_map_in almS l zc.toNat (by omega)
    have hsm := g6 _ (getD_mem l zc.toNat (by omega))
    obtain ⟨⟨pd, rd⟩, ⟨had, hbd, zd, kd, nd, rfl⟩, hfd⟩ := (next_det 4 (by omega) (by omega)) L pc hL hl (by omega) (by omega)
    simp only at had hbd hfd
    by_cases d0 : zd = 0
    ·
     refine exX hfd rfl rfl ?_
     unfold strm
     simp (maxSteps := 1000000) (disch := (first | omega | assumption)) only [go_sem]
     obtain ⟨⟨pe, re⟩, ⟨hae, hbe, ze, ke, rfl⟩, hfe⟩ := (some_det false [(l.getD zc.toNat default).k, ByteArray.mk #[], keyB1] (by simp) (by simp)) L pd hL hl (by omega) (by omega)
     simp only at hae hbe hfe
     refine exX hfe rfl rfl ?_
     unfold strm
     simp (maxSteps := 1000000) (disch := (first | omega | assumption)) only [go_sem]
     obtain ⟨⟨pf, rf⟩, ⟨haf, hbf, zf, kf, rfl⟩, hff⟩ := (some_det false [(l.getD zc.toNat default).t, ByteArray.mk #[65]] (by simp) (by simp)) L pe hL hl (by omega) (by omega)
     simp only at haf hbf hff
     refine exX hff rfl rfl ?_
     unfold strm
     simp (maxSteps := 1000000) (disch := (first | omega | assumption)) only [go_sem]
     have s1 : ze.size ≤ 1000 := by
      simp only [List.mem_cons, List.not_mem_nil, or_false] at ke
      rcases ke with rfl | rfl | rfl
      ·exact hsm.1
      ·exact emp_sm
      ·exact of_decide_eq_true (by kernel_rfl)
     have s2 : zf.size ≤ 1000 := by
      simp only [List.mem_cons, List.not_mem_nil, or_false] at kf
      rcases kf with rfl | rfl
      ·exact hsm.2.1
      ·exact of_decide_eq_true (by kernel_rfl)
     exact ⟨(pf, _), ⟨by simp only; omega, by simp only; omega, l.set zc.toNat { l.getD zc.toNat default with k := ze, t := zf }, by simp; omega, sm_set g6 ⟨s1, s2, hsm.2.2⟩, by simp [almS_eq, List.map_set, frE_set, frE_alm, freshC]⟩, rfl, rfl⟩
    by_cases d1 : zd = 1
    ·
     refine exX hfd rfl rfl ?_
     unfold strm
     simp (maxSteps := 1000000) (disch := (first | omega | assumption)) only [go_sem]
     obtain ⟨⟨pe, re⟩, ⟨hae, hbe, ze, ke, rfl⟩, hfe⟩ := (odd_det 1 3 (by omega) (by omega) (by omega)) L pd hL hl (by omega) (by omega)
     simp only at hae hbe hfe
     refine exX hfe rfl rfl ?_
     unfold strm
     simp (maxSteps := 1000000) (disch := (first | omega | assumption)) only [go_sem]
     obtain ⟨⟨pf, rf⟩, ⟨haf, hbf, zf, kf, rfl⟩, hff⟩ := (odd_det (-1000000) 1000000 (by omega) (by omega) (by omega)) L pe hL hl (by omega) (by omega)
     simp only at haf hbf hff
     refine exX hff rfl rfl ?_
     unfold strm
     simp (maxSteps := 1000000) (disch := (first | omega | assumption)) only [go_sem]
     exact ⟨(pf, _), ⟨by simp only; omega, by simp only; omega, l.set zc.toNat { l.getD zc.toNat default with kd := ze, lim := zf }, by simp; omega, sm_set g6 hsm, by simp [almS_eq, List.map_set, frE_set, frE_alm, freshC]⟩, rfl, rfl⟩
    by_cases d2 : zd = 2
    ·
     refine exX hfd rfl rfl ?_
     unfold strm
     simp (maxSteps := 1000000) (disch := (first | omega | assumption)) only [go_sem]
     obtain ⟨⟨pe, re⟩, ⟨hae, hbe, ze, ke, rfl⟩, hfe⟩ := (odd_det 0 86400000 (by omega) (by omega) (by omega)) L pd hL hl (by omega) (by omega)
     simp only at hae hbe hfe
     refine exX hfe rfl rfl ?_
     unfold strm
     simp (maxSteps := 1000000) (disch := (first | omega | assumption)) only [go_sem]
     obtain ⟨⟨pf, rf⟩, ⟨haf, hbf, zf, kf, rfl⟩, hff⟩ := (odd_det 1 1000 (by omega) (by omega) (by omega)) L pe hL hl (by omega) (by omega)
     simp only at haf hbf hff
     refine exX hff rfl rfl ?_
     unfold strm
     simp (maxSteps := 1000000) (disch := (first | omega | assumption)) only [go_sem]
     exact ⟨(pf, _), ⟨by simp only; omega, by simp only; omega, l.set zc.toNat { l.getD zc.toNat default with on := ze, pr := zf }, by simp; omega, sm_set g6 hsm, by simp [almS_eq, List.map_set, frE_set, frE_alm, freshC]⟩, rfl, rfl⟩
    refine exX hfd rfl rfl ?_
    unfold strm
    simp (maxSteps := 1000000) (disch := (first | omega | assumption)) only [go_sem]
    obtain ⟨⟨pe, re⟩, ⟨hae, hbe, ze, ke, rfl⟩, hfe⟩ := (some_det false [ByteArray.mk #[122, 122], (l.getD zc.toNat default).k, keyB1, keyB3] (by simp) (by simp)) L pd hL hl (by omega) (by omega)
    simp only at hae hbe hfe
    refine exX hfe rfl rfl ?_
    unfold strm
    simp (maxSteps := 1000000) (disch := (first | omega | assumption)) only [go_sem]
    have s1 : ze.size ≤ 1000 := by
     simp only [List.mem_cons, List.not_mem_nil, or_false] at ke
     rcases ke with rfl | rfl | rfl | rfl
     ·exact of_decide_eq_true (by kernel_rfl)
     ·exact hsm.1
     ·exact of_decide_eq_true (by kernel_rfl)
     ·exact of_decide_eq_true (by kernel_rfl)
    exact ⟨(pe, _), ⟨by simp only; omega, by simp only; omega, l.set zc.toNat { l.getD zc.toNat default with p := ze }, by simp; omega, sm_set g6 ⟨hsm.1, hsm.2.1, s1⟩, by simp [almS_eq, List.map_set, frE_set, frE_alm, freshC]⟩, rfl, rfl⟩
  ·simp (maxSteps := 1000000) (disch := (first | omega | assumption)) only [go_sem]
   exact ⟨(q, _), ⟨by simp only; omega, by simp only; omega, l, by omega, g6, rfl⟩, rfl, rfl⟩
def raSt (L : List Int) (j q : Int) : AS := ⟨tabV [(0, .one (.bx 0 0)), (4, iv j)], tabO [(0, strm L q)], tabO []⟩
theorem rightAlarms_det : GenD Tryz.prog 102 [] 1000 (fun r => ∃ l : List Alm, afF l = 0 ∧ l.length ≤ 3 ∧ (∀ x ∈ l, x.sm) ∧ r = alms true l) := by
 refine genD_of (fun L p R' h => fc_rightAlarms (xt := some (strm L p)) (args := []) (R := R') (by simp +arith) h) ?_
 intro L p hL hl h0 hp
 unfold C_rightAlarms strm
 simp (maxSteps := 1000000) (disch := omega) only [go_sem]
 refine loopD (fun x : Int × Int => raSt L x.1 x.2) (fun x => 0 ≤ x.1 ∧ x.1 ≤ 6 ∧ p ≤ x.2 ∧ x.2 ≤ p + 100 * x.1) (fun x => (6 - x.1).toNat) (0, p) ⟨by simp, by simp, by simp, by simp⟩ rfl ?_
 rintro G ⟨j, q⟩ ⟨g1, g2, g3, g4⟩ IH
 simp only at g1 g2 g3 g4
 unfold raSt strm
 by_cases hj : j < 6
 ·simp (maxSteps := 1000000) (disch := omega) only [go_sem]
  obtain ⟨⟨q', r⟩, ⟨h1, h2, l, hll, hsm, rfl⟩, hf⟩ := alarmList_det L q hL hl (by omega) (by omega)
  simp only at h1 h2 hf
  refine exX hf rfl rfl ?_
  unfold strm
  simp (maxSteps := 1000000) (disch := omega) only [go_sem]
  refine exC (alarmsFault_fc l (by omega) hsm) (.inl rfl) ?_
  by_cases hs : afF l = 0
  ·simp (maxSteps := 1000000) (disch := omega) only [go_sem]
   exact ⟨(q', _), ⟨by simp only; omega, by simp only; omega, l, hs, hll, hsm, rfl⟩, rfl, rfl⟩
  ·simp (maxSteps := 1000000) (disch := omega) only [go_sem]
   obtain ⟨y, hB, hG⟩ := IH (j + 1, q') ⟨by simp; omega, by simp; omega, by simp; omega, by simp; omega⟩ (by simp; omega)
   exact ⟨y, hB, _, rfl, by simp; omega, hG⟩
 ·clear IH
  simp (maxSteps := 1000000) (disch := omega) only [go_sem]
  exact ⟨(q, _), ⟨by simp only; omega, by simp only; omega, [], rfl, by simp, by simp, rfl⟩, rfl, rfl⟩
end Go.Proofs.YtfgkpbkphmeigaaGreatDoor
namespace Go.Proofs.YtfgkpbkphmeigaaGreatDoor
open Go Go.Ai
set_option linter.unusedSimpArgs false
set_option linter.unusedVariables false
set_option maxHeartbeats 4000000
def C_tagList : AC := (.seq (.reg false [gI 4 (.mv (.v (.slice none 0 0)))] (kP [0,1] [0] []))
 (.seq (.seq (.reg false [gI 5 (.mv (.v (.slice none 0 0)))] (kP [0,1,5] [0] []))
 (.own 5 112 2))
 (.seq (.seq (.reg false [gI 8 (.bslice 1 2 [(.v (.string (ByteArray.mk #[112,49,95,116,101,109,112]))),(.v (.string (ByteArray.mk #[112,50,95,116,101,109,112])))]),gI 9 (.len (.t 8)),gI 10 (.mv (oI 0))] (kP [0,1,5,8,9,10] [0] [5]))
 (.block 0 (.loop (.seq (.reg false [gI 11 (.bin .lss (.t 10) (.t 9))] (kP [0,1,5,8,9,10,11] [0] [5]))
 (.seq (.cond (.t 11)
 .skip
 (.exit 0))
 (.seq (.block 1 (.seq (.reg false [gI 12 (.iadr 1 (.t 8) (.t 10)),gI 13 (.load false 1 (.t 12)),gM 7 13] (kP [0,1,5,7,8,9,10] [0] [5]))
 (.seq (.reg false [gM 14 0,gI 15 (.callx (.f 10) [(.t 14),(oI 6)]),gI 16 (.un .not (.t 15))] (kP [0,1,5,7,8,9,10,16] [0] [5]))
 (.cond (.t 16)
 (.reg false [gM 17 5,gM 18 7,gM 19 0,gM 20 1,gI 21 (.callx (.f 73) [(.t 19),(.t 20)]),gI 22 (.build [(.string (ByteArray.mk #[])),(.slice none 0 0)] [(0,1,(.t 18)),(1,1,(.t 21))]),gI 23 (.bslice 2 1 [(.t 22)]),gI 24 (.append 112 2 40 (.t 17) (.t 23)),gM 5 24] (kP [0,1,5,8,9,10] [0] [5]))
 .skip))))
 (.reg false [gI 25 (.bin .add (.t 10) (oI 1)),gM 10 25] (kP [0,1,5,8,9,10] [0] [5]))))))))
 (.seq (.seq (.reg false [gM 26 5,gI 27 (.len (.t 26)),gI 28 (.bin .gtr (.t 27) (oI 0)),gM 29 28,gG 30 29 true (.mv (.t 0)),gG 31 29 true (.callx (.f 10) [(.t 30),(oI 20)]),gI 32 (.pick (.t 29) (.t 31) (.v (.bool false)))] (kP [0,5,32] [0] [5]))
 (.cond (.t 32)
 (.reg false [gM 33 5,gM 34 0,gI 35 (.bslice 1 3 [(.v (.string (ByteArray.mk #[]))),(.v (.string (ByteArray.mk #[122,122]))),(.v (.string (ByteArray.mk #[112,50,95,116,101,109,112])))]),gI 36 (.callx (.f 30) [(.t 34),(.t 35)]),gI 37 (.iadr 2 (.t 33) (oI 0)),gI 38 (.fadr 0 (.t 37)),gN (.store 1 (.t 38) (.t 36))] (kP [5] [0] []))
 .skip))
 (.seq (.reg false [gM 39 5,gM 4 39] (kP [4] [0] []))
 .ret)))))
theorem fc_tagList : FcT Tryz.prog 7 Tryz.f7 C_tagList [.t 4] := fc_mk [aN [0,1] [0] [],⟨(kP [0,1,5] [0] []),[(5,112,2)],[],[],[]⟩,aN [0,1,5,8,9,10] [0] [5],aN [0,1,5,8,9,10,11] [0] [5],aN [0,1,5,7,8,9,10] [0] [5],aN [0,1,5,7,8,9,10,16] [0] [5],aN [0,1,5,8,9,10] [0] [5],aN [0,1,5,8,9,10] [0] [5],aN [0,5,32] [0] [5],aN [5] [0] [],aN [4] [0] []] Tryz.func7 (by kernel_rfl)
abbrev serRow (l : List Ser) : Row := ⟨0, 112, 2, l.map (serS true)⟩
theorem frE_ser (l : List Ser) : frE (l.map (serS true)) = true := by
 unfold frE
 rw [List.all_eq_true]
 intro e he
 obtain ⟨x, _, rfl⟩ := List.mem_map.1 he
 rfl
attribute [go_sem] frE_ser
def tgA : ByteArray := ByteArray.mk #[112, 49, 95, 116, 101, 109, 112]
def tgB : ByteArray := ByteArray.mk #[112, 50, 95, 116, 101, 109, 112]
def tgsA : List ByteArray := [tgA, tgB]
theorem tg2 : ([[Cel.g (.string (ByteArray.mk #[112, 49, 95, 116, 101, 109, 112]))], [.g (.string (ByteArray.mk #[112, 50, 95, 116, 101, 109, 112]))]] : List (List Cel)) = tgsA.map strC := (rfl)
structure TgX where
 i : Int
 q : Int
 l : List Ser
def tgSt (L : List Int) (most : Int) (x : TgX) : AS := ⟨tabV [(0, .one (.bx 0 0)), (1, iv most), (5, .one (.ow 5 0)), (8, .one (.sl true 1 (tgsA.map strC))), (9, iv 2), (10, iv x.i)], tabO [(0, strm L x.q)], tabO [(5, serRow x.l)]⟩
def Ser.sm (most : Int) (x : Ser) : Prop := x.t.size ≤ 1000 ∧ x.l.length ≤ most
theorem ser_app {most : Int} {l : List Ser} {x : Ser} (h : ∀ y ∈ l, y.sm most) (hx : x.sm most) : ∀ y ∈ l ++ [x], y.sm most := fun y hy => by
 rcases List.mem_append.1 hy with hy | hy
 ·exact h y hy
 ·simp at hy; subst hy; exact hx
theorem tgs_sm (i : Int) (h0 : 0 ≤ i) (h : i < 2) : (tgsA.getD i.toNat default).size ≤ 1000 := sms tgsA (by kernel_rfl) _ (getD_memB _ _ (by have : tgsA.length = 2 := rfl; omega))
set_option maxHeartbeats 12000000 in
set_option maxRecDepth 8000 in
theorem tagList_det (most : Int) (hm : 0 ≤ most) (hm2 : most ≤ 1000) : GenD Tryz.prog 7 [iv most] 9000 (fun r => ∃ l : List Ser, l.length ≤ 2 ∧ (∀ x ∈ l, x.sm most) ∧ r = sers true l) := by
 refine genD_of (fun L p R' h => fc_tagList (xt := some (strm L p)) (args := [iv most]) (R := R') (by simp +arith) h) ?_
 intro L p hL hl h0 hp
 unfold C_tagList strm
 simp (maxSteps := 1000000) (disch := omega) only [go_sem]
 rw [tg2]
 refine loopD (tgSt L most) (fun x => 0 ≤ x.i ∧ x.i ≤ 2 ∧ x.l.length ≤ x.i ∧ p ≤ x.q ∧ x.q ≤ p + 4001 * x.i ∧ ∀ y ∈ x.l, y.sm most) (fun x => (2 - x.i).toNat) ⟨0, p, []⟩ ⟨by simp, by simp, by simp, by simp, by simp, by simp⟩ rfl ?_
 rintro G ⟨i, q, l⟩ ⟨g1, g2, g3, g4, g5, g6⟩ IH
 simp only at g1 g2 g3 g4 g5 g6
 unfold tgSt strm
 by_cases hi : i < 2
 ·have em := getD_str tgsA i g1 (by have : tgsA.length = 2 := rfl; omega)
  have ksm := tgs_sm i g1 hi
  have h2 : tgsA.length = 2 := rfl
  simp (maxSteps := 1000000) (disch := omega) only [go_sem]
  simp only [strC_eq]
  simp (maxSteps := 1000000) (disch := omega) only [go_sem]
  obtain ⟨⟨pa, ra⟩, ⟨haa, hba, ba, rfl⟩, hfa⟩ := (flip_det 6 (by omega) (by omega)) L q hL hl (by omega) (by omega)
  simp only at haa hba hfa
  cases ba with
  | true =>
   refine exX hfa rfl rfl ?_
   unfold strm
   simp (maxSteps := 1000000) (disch := (first | omega | assumption)) only [go_sem]
   obtain ⟨yy, hB, hG⟩ := IH ⟨i + 1, pa, l⟩ ⟨by simp only; omega, by simp only; omega, by simp only; omega, by simp only; omega, by simp only; omega, g6⟩ (by simp only; omega)
   exact ⟨yy, hB, _, by simp only [tgSt, strm], by simp only; omega, hG⟩
  | false =>
   refine exX hfa rfl rfl ?_
   unfold strm
   simp (maxSteps := 1000000) (disch := (first | omega | assumption)) only [go_sem]
   obtain ⟨⟨pb, rb⟩, ⟨hab, hbb, c, hcl, hc64, rfl⟩, hfb⟩ := curve_det most hm hm2 L pa hL hl (by omega) (by omega)
   simp only at hab hbb hfb
   refine exX hfb rfl rfl ?_
   unfold strm
   simp (maxSteps := 1000000) (disch := (first | omega | assumption)) only [go_sem]
   obtain ⟨yy, hB, hG⟩ := IH ⟨i + 1, pb, l ++ [⟨tgsA.getD i.toNat default, c⟩]⟩ ⟨by simp only; omega, by simp only; omega, by simp only [List.length_append, List.length_singleton]; omega, by simp only; omega, by simp only; omega, ser_app g6 ⟨ksm, hcl⟩⟩ (by simp only; omega)
   exact ⟨yy, hB, _, by simp only [tgSt, strm, serRow, List.map_append, List.map_cons, List.map_nil, serS_eq], by simp only; omega, hG⟩
 ·clear IH
  have g7 : q ≤ p + 8002 := by omega
  by_cases hn : 0 < l.length
  ·simp (maxSteps := 1000000) (disch := (first | omega | assumption)) only [go_sem]
   obtain ⟨⟨pb, rb⟩, ⟨hab, hbb, bb, rfl⟩, hfb⟩ := (flip_det 20 (by omega) (by omega)) L q hL hl (by omega) (by omega)
   simp only at hab hbb hfb
   cases bb with
   | false =>
    refine exX hfb rfl rfl ?_
    unfold strm
    simp (maxSteps := 1000000) (disch := (first | omega | assumption)) only [go_sem]
    exact ⟨(pb, _), ⟨by simp only; omega, by simp only; omega, l, by omega, g6, rfl⟩, rfl, rfl⟩
   | true =>
    refine exX hfb rfl rfl ?_
    unfold strm
    simp (maxSteps := 1000000) (disch := (first | omega | assumption)) only [go_sem]
    obtain ⟨⟨pe, re⟩, ⟨hae, hbe, ze, ke, rfl⟩, hfe⟩ := (some_det false [ByteArray.mk #[], ByteArray.mk #[122, 122], tgB] (by simp) (by simp)) L pb hL hl (by omega) (by omega)
    simp only at hae hbe hfe
    refine exX hfe rfl rfl ?_
    unfold strm
    simp (maxSteps := 1000000) (disch := (first | omega | assumption)) only [go_sem]
    have s1 : ze.size ≤ 1000 := by
     simp only [List.mem_cons, List.not_mem_nil, or_false] at ke
     rcases ke with rfl | rfl | rfl <;> exact of_decide_eq_true (by kernel_rfl)
    have hz := g6 _ (getD_mem l (Int.toNat 0) (by have : Int.toNat 0 = 0 := rfl; omega))
    refine ⟨(pe, _), ⟨by simp only; omega, by simp only; omega, l.set (Int.toNat 0) { l.getD (Int.toNat 0) default with t := ze }, by simp; omega, fun y hy => ?_, ?_⟩, rfl, rfl⟩
    ·rcases List.mem_or_eq_of_mem_set hy with hy | rfl
     ·exact g6 y hy
     ·exact ⟨s1, hz.2⟩
    ·simp [serS_eq, List.map_set, frE_set, frE_ser, freshC]
  ·simp (maxSteps := 1000000) (disch := (first | omega | assumption)) only [go_sem]
   exact ⟨(q, _), ⟨by simp only; omega, by simp only; omega, l, by omega, g6, rfl⟩, rfl, rfl⟩
end Go.Proofs.YtfgkpbkphmeigaaGreatDoor


/-
 Lists of tags, calculated tags and alarms that are equal are told so. SitesExpanded: its code.
-/
import Derived.Test.YtdhkejcldipbmaaGreatDoorBas
import Derived.Test.YtdhkejcldipbmaaGreatDoorCrs
namespace Go.Proofs.YtdhkejcldipbmaaGreatDoor
open Go Go.Ai Go.Proofs
set_option linter.unusedSimpArgs false
set_option linter.unusedVariables false
set_option maxHeartbeats 4000000
def C_eqS : AC := (.seq (.reg false [gI 4 (.mv (.v (.bool false)))] (kP [0,1] [] []))
 (.seq (.seq (.reg false [gM 6 0,gI 7 (.len (.t 6)),gM 8 1,gI 9 (.len (.t 8)),gI 10 (.bin .neq (.t 7) (.t 9))] (kP [0,1,10] [] []))
 (.cond (.t 10)
 (.seq (.reg false [gI 4 (.mv (.v (.bool false)))] (kP [4] [] []))
 .ret)
 .skip))
 (.seq (.seq (.reg false [gM 11 0,gI 12 (.len (.t 11)),gI 13 (.mv (oI 0))] (kP [0,1,12,13] [] []))
 (.block 0 (.loop (.seq (.reg false [gI 14 (.bin .lss (.t 13) (.t 12))] (kP [0,1,12,13,14] [] []))
 (.seq (.cond (.t 14)
 .skip
 (.exit 0))
 (.seq (.block 1 (.seq (.reg false [gM 15 13,gM 5 15] (kP [0,1,5,12,13] [] []))
 (.seq (.reg true [gM 16 0,gM 17 5,gI 18 (.iadr 1 (.t 16) (.t 17)),gI 19 (.load false 1 (.t 18)),gM 20 1,gM 21 5,gI 22 (.iadr 1 (.t 20) (.t 21)),gI 23 (.load false 1 (.t 22)),gI 24 (.bin .neq (.t 19) (.t 23))] (kP [0,1,12,13,24] [] []))
 (.cond (.t 24)
 (.seq (.reg false [gI 4 (.mv (.v (.bool false)))] (kP [4] [] []))
 .ret)
 .skip))))
 (.reg false [gI 25 (.bin .add (.t 13) (oI 1)),gM 13 25] (kP [0,1,12,13] [] []))))))))
 (.seq (.reg false [gI 4 (.mv (.v (.bool true)))] (kP [4] [] []))
 .ret))))
theorem fc_eqS : FcT Tryz.prog 14 Tryz.f14 C_eqS [.t 4] := fc_mk [aN [0,1] [] [],aN [0,1,10] [] [],aN [4] [] [],aN [0,1,12,13] [] [],aN [0,1,12,13,14] [] [],aN [0,1,5,12,13] [] [],aN [0,1,12,13,24] [] [],aN [4] [] [],aN [0,1,12,13] [] [],aN [4] [] []] Tryz.func14 (by kernel_rfl)
def C_eqC : AC := (.seq (.reg false [gI 4 (.mv (.v (.bool false)))] (kP [0,1] [] []))
 (.seq (.seq (.reg false [gM 6 0,gI 7 (.len (.t 6)),gM 8 1,gI 9 (.len (.t 8)),gI 10 (.bin .neq (.t 7) (.t 9))] (kP [0,1,10] [] []))
 (.cond (.t 10)
 (.seq (.reg false [gI 4 (.mv (.v (.bool false)))] (kP [4] [] []))
 .ret)
 .skip))
 (.seq (.seq (.reg false [gM 11 0,gI 12 (.len (.t 11)),gI 13 (.mv (oI 0))] (kP [0,1,12,13] [] []))
 (.block 0 (.loop (.seq (.reg false [gI 14 (.bin .lss (.t 13) (.t 12))] (kP [0,1,12,13,14] [] []))
 (.seq (.cond (.t 14)
 .skip
 (.exit 0))
 (.seq (.block 1 (.seq (.reg false [gM 15 13,gM 5 15] (kP [0,1,5,12,13] [] []))
 (.seq (.reg true [gM 16 0,gM 17 5,gI 18 (.iadr 2 (.t 16) (.t 17)),gI 19 (.load true 2 (.t 18)),gM 20 1,gM 21 5,gI 22 (.iadr 2 (.t 20) (.t 21)),gI 23 (.load true 2 (.t 22)),gI 24 (.eqs true true [.s,.s] (.t 19) (.t 23))] (kP [0,1,12,13,24] [] []))
 (.cond (.t 24)
 (.seq (.reg false [gI 4 (.mv (.v (.bool false)))] (kP [4] [] []))
 .ret)
 .skip))))
 (.reg false [gI 25 (.bin .add (.t 13) (oI 1)),gM 13 25] (kP [0,1,12,13] [] []))))))))
 (.seq (.reg false [gI 4 (.mv (.v (.bool true)))] (kP [4] [] []))
 .ret))))
theorem fc_eqC : FcT Tryz.prog 16 Tryz.f16 C_eqC [.t 4] := fc_mk [aN [0,1] [] [],aN [0,1,10] [] [],aN [4] [] [],aN [0,1,12,13] [] [],aN [0,1,12,13,14] [] [],aN [0,1,5,12,13] [] [],aN [0,1,12,13,24] [] [],aN [4] [] [],aN [0,1,12,13] [] [],aN [4] [] []] Tryz.func16 (by kernel_rfl)
def C_eqA : AC := (.seq (.reg false [gI 4 (.mv (.v (.bool false)))] (kP [0,1] [] []))
 (.seq (.seq (.reg false [gM 6 0,gI 7 (.len (.t 6)),gM 8 1,gI 9 (.len (.t 8)),gI 10 (.bin .neq (.t 7) (.t 9))] (kP [0,1,10] [] []))
 (.cond (.t 10)
 (.seq (.reg false [gI 4 (.mv (.v (.bool false)))] (kP [4] [] []))
 .ret)
 .skip))
 (.seq (.seq (.reg false [gM 11 0,gI 12 (.len (.t 11)),gI 13 (.mv (oI 0))] (kP [0,1,12,13] [] []))
 (.block 0 (.loop (.seq (.reg false [gI 14 (.bin .lss (.t 13) (.t 12))] (kP [0,1,12,13,14] [] []))
 (.seq (.cond (.t 14)
 .skip
 (.exit 0))
 (.seq (.block 1 (.seq (.reg false [gM 15 13,gM 5 15] (kP [0,1,5,12,13] [] []))
 (.seq (.reg true [gM 16 0,gM 17 5,gI 18 (.iadr 10 (.t 16) (.t 17)),gI 19 (.load true 10 (.t 18)),gM 20 1,gM 21 5,gI 22 (.iadr 10 (.t 20) (.t 21)),gI 23 (.load true 10 (.t 22)),gI 24 (.eqs true true [.s,.s,.i .i64,.i .i64,.i .i64,.i .i64,.i .i64,.i .i64,.b,.s] (.t 19) (.t 23))] (kP [0,1,12,13,24] [] []))
 (.cond (.t 24)
 (.seq (.reg false [gI 4 (.mv (.v (.bool false)))] (kP [4] [] []))
 .ret)
 .skip))))
 (.reg false [gI 25 (.bin .add (.t 13) (oI 1)),gM 13 25] (kP [0,1,12,13] [] []))))))))
 (.seq (.reg false [gI 4 (.mv (.v (.bool true)))] (kP [4] [] []))
 .ret))))
theorem fc_eqA : FcT Tryz.prog 18 Tryz.f18 C_eqA [.t 4] := fc_mk [aN [0,1] [] [],aN [0,1,10] [] [],aN [4] [] [],aN [0,1,12,13] [] [],aN [0,1,12,13,14] [] [],aN [0,1,5,12,13] [] [],aN [0,1,12,13,24] [] [],aN [4] [] [],aN [0,1,12,13] [] [],aN [4] [] []] Tryz.func18 (by kernel_rfl)
def qsC (b : ByteArray) : List Cel := [.g (.string b)]
theorem qsC_eq (b : ByteArray) : qsC b = [.g (.string b)] := (rfl)
attribute [go_sem] qsC_eq
def qcC (x : ByteArray × ByteArray) : List Cel := [.g (.string x.1), .g (.string x.2)]
theorem qcC_eq (x : ByteArray × ByteArray) : qcC x = [.g (.string x.1), .g (.string x.2)] := (rfl)
attribute [go_sem] qcC_eq
structure QA where
 k : ByteArray
 t : ByteArray
 a : Int
 b : Int
 c : Int
 d : Int
 e : Int
 f : Int
 l : Bool
 p : ByteArray
instance : Inhabited QA := ⟨⟨default, default, 0, 0, 0, 0, 0, 0, false, default⟩⟩
def qaC (x : QA) : List Cel := [.g (.string x.k), .g (.string x.t), .g (.int .i64 x.a), .g (.int .i64 x.b), .g (.int .i64 x.c), .g (.int .i64 x.d), .g (.int .i64 x.e), .g (.int .i64 x.f), .g (.bool x.l), .g (.string x.p)]
theorem qaC_eq (x : QA) : qaC x = [.g (.string x.k), .g (.string x.t), .g (.int .i64 x.a), .g (.int .i64 x.b), .g (.int .i64 x.c), .g (.int .i64 x.d), .g (.int .i64 x.e), .g (.int .i64 x.f), .g (.bool x.l), .g (.string x.p)] := (rfl)
attribute [go_sem] qaC_eq
abbrev qsV (l : List ByteArray) : Val := .one (.sl false 1 (l.map qsC))
abbrev qcV (l : List (ByteArray × ByteArray)) : Val := .one (.sl false 2 (l.map qcC))
abbrev qaV (l : List QA) : Val := .one (.sl false 10 (l.map qaC))
def eqSSt (l : List ByteArray) (i : Int) : AS := ⟨tabV [(0, qsV l), (1, qsV l), (12, iv l.length), (13, iv i)], tabO [], tabO []⟩
theorem eqS_all (l : List ByteArray) (hl : l.length ≤ 1000000) : FC Tryz.prog 14 none [qsV l, qsV l] (fun _ r => r = bv true) := by
 refine fc_eqS (by simp +arith) ?_
 unfold C_eqS
 simp (maxSteps := 1000000) (disch := omega) only [go_sem]
 refine ex_loop1 (eqSSt l) (fun i => 0 ≤ i ∧ i ≤ l.length) (fun i => (l.length - i).toNat) 0 ⟨by omega, by omega⟩ rfl ?_
 rintro i ⟨g1, g2⟩
 unfold eqSSt
 by_cases hi : i < l.length
 ·have em := getD_map_at qsC l i [] g1 hi
  simp (maxSteps := 1000000) (disch := omega) only [go_sem]
  exact ⟨fun h => (by simp at h), fun _ => ⟨_, rfl, ⟨by omega, by omega⟩, by omega⟩⟩
 ·simp (maxSteps := 1000000) (disch := omega) only [go_sem]
def eqCSt (l : List (ByteArray × ByteArray)) (i : Int) : AS := ⟨tabV [(0, qcV l), (1, qcV l), (12, iv l.length), (13, iv i)], tabO [], tabO []⟩
theorem eqC_all (l : List (ByteArray × ByteArray)) (hl : l.length ≤ 1000000) : FC Tryz.prog 16 none [qcV l, qcV l] (fun _ r => r = bv true) := by
 refine fc_eqC (by simp +arith) ?_
 unfold C_eqC
 simp (maxSteps := 1000000) (disch := omega) only [go_sem]
 refine ex_loop1 (eqCSt l) (fun i => 0 ≤ i ∧ i ≤ l.length) (fun i => (l.length - i).toNat) 0 ⟨by omega, by omega⟩ rfl ?_
 rintro i ⟨g1, g2⟩
 unfold eqCSt
 by_cases hi : i < l.length
 ·have em := getD_map_at qcC l i [] g1 hi
  simp (maxSteps := 1000000) (disch := omega) only [go_sem]
  exact ⟨fun h => (by simp at h), fun _ => ⟨_, rfl, ⟨by omega, by omega⟩, by omega⟩⟩
 ·simp (maxSteps := 1000000) (disch := omega) only [go_sem]
def eqASt (l : List QA) (i : Int) : AS := ⟨tabV [(0, qaV l), (1, qaV l), (12, iv l.length), (13, iv i)], tabO [], tabO []⟩
theorem eqA_all (l : List QA) (hl : l.length ≤ 1000000) : FC Tryz.prog 18 none [qaV l, qaV l] (fun _ r => r = bv true) := by
 refine fc_eqA (by simp +arith) ?_
 unfold C_eqA
 simp (maxSteps := 1000000) (disch := omega) only [go_sem]
 refine ex_loop1 (eqASt l) (fun i => 0 ≤ i ∧ i ≤ l.length) (fun i => (l.length - i).toNat) 0 ⟨by omega, by omega⟩ rfl ?_
 rintro i ⟨g1, g2⟩
 unfold eqASt
 by_cases hi : i < l.length
 ·have em := getD_map_at qaC l i [] g1 hi
  simp (maxSteps := 1000000) (disch := omega) only [go_sem]
  exact ⟨fun h => (by simp at h), fun _ => ⟨_, rfl, ⟨by omega, by omega⟩, by omega⟩⟩
 ·simp (maxSteps := 1000000) (disch := omega) only [go_sem]
/-! ### lists as they come out of a run -/
def isS : List Cel → Bool
 | [.g (.string _)] => true
 | _ => false
def isC : List Cel → Bool
 | [.g (.string _), .g (.string _)] => true
 | _ => false
def isA : List Cel → Bool
 | [.g (.string _), .g (.string _), .g (.int .i64 _), .g (.int .i64 _), .g (.int .i64 _), .g (.int .i64 _), .g (.int .i64 _), .g (.int .i64 _), .g (.bool _), .g (.string _)] => true
 | _ => false
theorem list_of {α : Type} {p : List Cel → Bool} {f : α → List Cel} (h : ∀ x, p x = true → ∃ a, x = f a) : ∀ {l : List (List Cel)}, l.all p = true → ∃ m : List α, l = m.map f
 | [], _ => ⟨[], rfl⟩
 | x :: l, hl => by
  simp only [List.all_cons, Bool.and_eq_true] at hl
  obtain ⟨a, rfl⟩ := h x hl.1
  obtain ⟨m, rfl⟩ := list_of h hl.2
  exact ⟨a :: m, rfl⟩
theorem isS_of (x : List Cel) (h : isS x = true) : ∃ a, x = qsC a := by
 unfold isS at h
 split at h
 ·exact ⟨_, rfl⟩
 ·cases h
theorem isC_of (x : List Cel) (h : isC x = true) : ∃ a, x = qcC a := by
 unfold isC at h
 split at h
 ·exact ⟨(_, _), rfl⟩
 ·cases h
theorem isA_of (x : List Cel) (h : isA x = true) : ∃ a, x = qaC a := by
 unfold isA at h
 split at h
 ·exact ⟨⟨_, _, _, _, _, _, _, _, _, _⟩, rfl⟩
 ·cases h
theorem eqS_fc {l : List (List Cel)} (h : l.all isS = true) (hl : l.length ≤ 1000000) : FC Tryz.prog 14 none [.one (.sl false 1 l), .one (.sl false 1 l)] (fun _ r => r = bv true) := by
 obtain ⟨m, rfl⟩ := list_of isS_of h
 exact eqS_all m (by simpa using hl)
theorem eqC_fc {l : List (List Cel)} (h : l.all isC = true) (hl : l.length ≤ 1000000) : FC Tryz.prog 16 none [.one (.sl false 2 l), .one (.sl false 2 l)] (fun _ r => r = bv true) := by
 obtain ⟨m, rfl⟩ := list_of isC_of h
 exact eqC_all m (by simpa using hl)
theorem eqA_fc {l : List (List Cel)} (h : l.all isA = true) (hl : l.length ≤ 1000000) : FC Tryz.prog 18 none [.one (.sl false 10 l), .one (.sl false 10 l)] (fun _ r => r = bv true) := by
 obtain ⟨m, rfl⟩ := list_of isA_of h
 exact eqA_all m (by simpa using hl)
def C_slw : AC := (.seq (.reg false [gI 2 (.mv (.v (.bool false)))] (kP [0] [] []))
 (.seq (.reg false [gM 18 0,gI 19 (.build [(.slice none 0 0),(.int .i64 (0))] [(0,1,(.t 18))]),gI 20 (.box (.t 19)),gM 3 20] (kP [3,20] [20] []))
 (.seq (.reg false [gM 21 3,gI 22 (.callx (.f 4) [(.t 21)]),gM 23 3,gI 24 (.bslice 1 4 [(.v (.string (ByteArray.mk #[112,49]))),(.v (.string (ByteArray.mk #[112,50]))),(.v (.string (ByteArray.mk #[112,51]))),(.v (.string (ByteArray.mk #[122,122])))]),gI 25 (.callx (.f 5) [(.t 23),(.t 24)]),gI 4 (.alloc [(.slice none 0 0),(.slice none 0 0),(.slice none 0 0)]),gN (.store 3 (.t 4) (.t 22)),gM 5 25] (kP [4,5] [4] []))
 (.seq (.reg false [gI 26 (.load true 3 (.t 4)),gI 27 (.call (.f 6) [(.t 26)]),gM 6 27] (kP [4,5,6] [4] []))
 (.seq (.seq (.reg false [gI 28 (.load true 3 (.t 4)),gI 29 (.call (.f 7) [(.t 28)]),gM 30 6,gI 31 (.bin .neq (.t 29) (.t 30))] (kP [4,5,6,31] [4] []))
 (.cond (.t 31)
 (.seq (.reg false [gI 2 (.mv (.v (.bool false)))] (kP [2] [] []))
 .ret)
 .skip))
 (.seq (.reg false [gI 33 (.load true 3 (.t 4)),gI 34 (.call (.f 8) [(.t 33)]),gM 32 34,gI 35 (.extr (.t 32) 0),gI 36 (.extr (.t 32) 1),gM 7 35,gM 8 36] (kP [4,5,6,7,8] [4] []))
 (.seq (.reg false [gI 38 (.load true 3 (.t 4)),gI 39 (.call (.f 9) [(.t 38)]),gM 37 39,gI 40 (.extr (.t 37) 0),gI 41 (.extr (.t 37) 1),gM 9 40,gM 10 41] (kP [4,5,6,7,8,9,10] [4] []))
 (.seq (.reg false [gI 43 (.load true 3 (.t 4)),gI 44 (.call (.f 10) [(.t 43)]),gM 42 44,gI 45 (.extr (.t 42) 0),gI 46 (.extr (.t 42) 1),gM 11 45,gM 12 46] (kP [4,5,6,7,8,9,10,11,12] [4] []))
 (.seq (.reg false [gI 48 (.load true 3 (.t 4)),gM 49 5,gI 50 (.call (.f 11) [(.t 48),(.t 49)]),gM 47 50,gI 51 (.extr (.t 47) 0),gI 52 (.extr (.t 47) 1),gM 13 51,gM 14 52] (kP [4,5,6,7,8,9,10,11,12,13,14] [4] []))
 (.seq (.reg false [gI 54 (.load true 3 (.t 4)),gM 55 5,gI 56 (.call (.f 12) [(.t 54),(.t 55)]),gM 53 56,gI 57 (.extr (.t 53) 0),gI 58 (.extr (.t 53) 1),gM 15 57,gM 16 58] (kP [4,5,6,7,8,9,10,11,12,13,14,15,16] [4] []))
 (.seq (.seq (.reg false [gM 59 6,gI 60 (.bin .neq (.t 59) (oI 0))] (kP [4,5,6,7,8,9,10,11,12,13,14,15,16,60] [4] []))
 (.cond (.t 60)
 (.seq (.reg false [gM 61 8,gM 62 6,gI 63 (.bin .eql (.t 61) (.t 62)),gM 64 63,gG 65 64 true (.mv (.t 10)),gG 66 64 true (.mv (.t 6)),gG 67 64 true (.bin .eql (.t 65) (.t 66)),gI 68 (.pick (.t 64) (.t 67) (.v (.bool false))),gM 69 68,gG 70 69 true (.mv (.t 12)),gG 71 69 true (.mv (.t 6)),gG 72 69 true (.bin .eql (.t 70) (.t 71)),gI 73 (.pick (.t 69) (.t 72) (.v (.bool false))),gM 74 73,gG 75 74 true (.mv (.t 14)),gG 76 74 true (.mv (.t 6)),gG 77 74 true (.bin .eql (.t 75) (.t 76)),gI 78 (.pick (.t 74) (.t 77) (.v (.bool false))),gM 79 78,gG 80 79 true (.mv (.t 16)),gG 81 79 true (.mv (.t 6)),gG 82 79 true (.bin .eql (.t 80) (.t 81)),gI 83 (.pick (.t 79) (.t 82) (.v (.bool false))),gM 84 83,gG 85 84 true (.mv (.t 7)),gG 86 84 true (.len (.t 85)),gG 87 84 true (.mv (.t 9)),gG 88 84 true (.len (.t 87)),gG 89 84 true (.bin .add (.t 86) (.t 88)),gG 90 84 true (.mv (.t 11)),gG 91 84 true (.len (.t 90)),gG 92 84 true (.bin .add (.t 89) (.t 91)),gG 93 84 true (.mv (.t 13)),gG 94 84 true (.len (.t 93)),gG 95 84 true (.bin .add (.t 92) (.t 94)),gG 96 84 true (.mv (.t 15)),gG 97 84 true (.len (.t 96)),gG 98 84 true (.bin .add (.t 95) (.t 97)),gG 99 84 true (.bin .eql (.t 98) (oI 0)),gI 100 (.pick (.t 84) (.t 99) (.v (.bool false))),gM 101 100,gG 102 101 true (.call (.f 13) []),gI 103 (.pick (.t 101) (.t 102) (.v (.bool false))),gM 2 103] (kP [2] [] []))
 .ret)
 .skip))
 (.seq (.seq (.reg false [gM 104 8,gI 105 (.bin .neq (.t 104) (oI 0)),gM 106 105,gG 107 106 false (.mv (.t 7)),gG 108 106 false (.load true 3 (.t 4)),gG 109 106 false (.call (.f 15) [(.t 108)]),gG 110 106 false (.call (.f 14) [(.t 107),(.t 109)]),gG 111 106 false (.un .not (.t 110)),gI 112 (.pick (.t 106) (.v (.bool true)) (.t 111)),gM 113 112,gG 114 113 false (.mv (.t 10)),gG 115 113 false (.bin .neq (.t 114) (oI 0)),gI 116 (.pick (.t 113) (.v (.bool true)) (.t 115)),gM 117 116,gG 118 117 false (.mv (.t 9)),gG 119 117 false (.load true 3 (.t 4)),gG 120 117 false (.call (.f 17) [(.t 119)]),gG 121 117 false (.call (.f 16) [(.t 118),(.t 120)]),gG 122 117 false (.un .not (.t 121)),gI 123 (.pick (.t 117) (.v (.bool true)) (.t 122)),gM 124 123,gG 125 124 false (.mv (.t 12)),gG 126 124 false (.bin .neq (.t 125) (oI 0)),gI 127 (.pick (.t 124) (.v (.bool true)) (.t 126)),gM 128 127,gG 129 128 false (.mv (.t 11)),gG 130 128 false (.load true 3 (.t 4)),gG 131 128 false (.call (.f 19) [(.t 130)]),gG 132 128 false (.call (.f 18) [(.t 129),(.t 131)]),gG 133 128 false (.un .not (.t 132)),gI 134 (.pick (.t 128) (.v (.bool true)) (.t 133))] (kP [4,5,13,14,15,16,134] [4] []))
 (.cond (.t 134)
 (.seq (.reg false [gI 2 (.mv (.v (.bool false)))] (kP [2] [] []))
 .ret)
 .skip))
 (.seq (.seq (.reg false [gI 135 (.load true 3 (.t 4)),gM 136 5,gI 137 (.call (.f 20) [(.t 135),(.t 136)]),gM 17 137] (kP [4,5,13,14,15,16,17] [4] []))
 (.seq (.reg false [gM 138 17,gI 139 (.bin .neq (.t 138) (oI 0))] (kP [4,5,13,14,15,16,17,139] [4] []))
 (.cond (.t 139)
 (.seq (.reg false [gM 140 14,gM 141 17,gI 142 (.bin .eql (.t 140) (.t 141)),gM 143 142,gG 144 143 true (.mv (.t 16)),gG 145 143 true (.mv (.t 17)),gG 146 143 true (.bin .eql (.t 144) (.t 145)),gI 147 (.pick (.t 143) (.t 146) (.v (.bool false))),gM 148 147,gG 149 148 true (.mv (.t 13)),gG 150 148 true (.len (.t 149)),gG 151 148 true (.mv (.t 15)),gG 152 148 true (.len (.t 151)),gG 153 148 true (.bin .add (.t 150) (.t 152)),gG 154 148 true (.bin .eql (.t 153) (oI 0)),gI 155 (.pick (.t 148) (.t 154) (.v (.bool false))),gM 156 155,gG 157 156 true (.call (.f 13) []),gI 158 (.pick (.t 156) (.t 157) (.v (.bool false))),gM 2 158] (kP [2] [] []))
 .ret)
 .skip)))
 (.seq (.reg false [gM 159 14,gI 160 (.bin .eql (.t 159) (oI 0)),gM 161 160,gG 162 161 true (.mv (.t 13)),gG 163 161 true (.load true 3 (.t 4)),gG 164 161 true (.mv (.t 5)),gG 165 161 true (.call (.f 21) [(.t 163),(.t 164)]),gG 166 161 true (.call (.f 14) [(.t 162),(.t 165)]),gI 167 (.pick (.t 161) (.t 166) (.v (.bool false))),gM 168 167,gG 169 168 true (.mv (.t 16)),gG 170 168 true (.bin .eql (.t 169) (oI 0)),gI 171 (.pick (.t 168) (.t 170) (.v (.bool false))),gM 172 171,gG 173 172 true (.mv (.t 15)),gG 174 172 true (.load true 3 (.t 4)),gG 175 172 true (.mv (.t 5)),gG 176 172 true (.call (.f 22) [(.t 174),(.t 175)]),gG 177 172 true (.call (.f 14) [(.t 173),(.t 176)]),gI 178 (.pick (.t 172) (.t 177) (.v (.bool false))),gM 179 178,gG 180 179 true (.call (.f 13) []),gI 181 (.pick (.t 179) (.t 180) (.v (.bool false))),gM 2 181] (kP [2] [] []))
 .ret))))))))))))))
theorem fc_slw : FcT Tryz.prog 3 Tryz.f3 C_slw [.t 2] := fc_mk [aN [0] [] [],aN [3,20] [20] [],aN [4,5] [4] [],aN [4,5,6] [4] [],aN [4,5,6,31] [4] [],aN [2] [] [],aN [4,5,6,7,8] [4] [],aN [4,5,6,7,8,9,10] [4] [],aN [4,5,6,7,8,9,10,11,12] [4] [],aN [4,5,6,7,8,9,10,11,12,13,14] [4] [],aN [4,5,6,7,8,9,10,11,12,13,14,15,16] [4] [],aN [4,5,6,7,8,9,10,11,12,13,14,15,16,60] [4] [],aN [2] [] [],aN [4,5,13,14,15,16,134] [4] [],aN [2] [] [],aN [4,5,13,14,15,16,17] [4] [],aN [4,5,13,14,15,16,17,139] [4] [],aN [2] [] [],aN [2] [] []] Tryz.func3 (by kernel_rfl)
def C_plt : AC := (.seq (.reg false [gI 0 (.mv (.v (.bool false)))] (kP [] [] []))
 (.seq (.reg false [gI 4 (.bslice 1 1 [(.v (.string (ByteArray.mk #[37,95,116,101,109,112])))]),gI 5 (.build [(.string (ByteArray.mk #[])),(.slice none 0 0),(.slice none 0 0),(.slice none 0 0)] [(0,1,(.v (.string (ByteArray.mk #[112,117,109,112])))),(1,1,(.t 4))]),gI 6 (.bslice 4 1 [(.t 5)]),gI 7 (.build [(.string (ByteArray.mk #[])),(.string (ByteArray.mk #[])),(.string (ByteArray.mk #[]))] [(0,1,(.v (.string (ByteArray.mk #[112,49])))),(2,1,(.v (.string (ByteArray.mk #[112,117,109,112]))))]),gI 8 (.bslice 3 1 [(.t 7)]),gI 9 (.build [(.slice none 0 0),(.slice none 0 0),(.slice none 0 0)] [(0,1,(.t 6)),(1,1,(.t 8))]),gI 10 (.call (.f 8) [(.t 9)]),gM 3 10,gI 11 (.extr (.t 3) 0),gI 12 (.extr (.t 3) 1),gM 1 11,gM 2 12] (kP [1,2] [] []))
 (.seq (.reg false [gM 13 2,gI 14 (.bin .eql (.t 13) (oI 0)),gM 15 14,gG 16 15 true (.mv (.t 1)),gG 17 15 true (.bslice 1 1 [(.v (.string (ByteArray.mk #[112,49,95,116,101,109,112])))]),gG 18 15 true (.call (.f 14) [(.t 16),(.t 17)]),gI 19 (.pick (.t 15) (.t 18) (.v (.bool false))),gM 0 19] (kP [0] [] []))
 .ret)))
theorem fc_plt : FcT Tryz.prog 13 Tryz.f13 C_plt [.t 0] := fc_mk [aN [] [] [],aN [1,2] [] [],aN [0] [] []] Tryz.func13 (by kernel_rfl)
end Go.Proofs.YtdhkejcldipbmaaGreatDoor

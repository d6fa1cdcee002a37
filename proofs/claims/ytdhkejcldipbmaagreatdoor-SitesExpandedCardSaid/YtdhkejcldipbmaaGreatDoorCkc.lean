
/-
 Clocks of nodes are checked alike by both sides.
-/
import Derived.Test.YtdhkejcldipbmaaGreatDoorBas
import Derived.Test.YtdhkejcldipbmaaGreatDoorGdt
import Derived.Test.YtdhkejcldipbmaaGreatDoorKey
namespace Go.Proofs.YtdhkejcldipbmaaGreatDoor
open Go Go.Ai Go.Proofs
set_option linter.unusedSimpArgs false
set_option linter.unusedVariables false
set_option maxHeartbeats 4000000
def C_cc1 : AC := (.seq (.reg false [gI 2 (.mv (oI 0))] (kP [0] [] []))
 (.seq (.seq (.reg false [gM 6 0,gI 7 (.len (.t 6)),gI 8 (.bin .gtr (.t 7) (oI 2000))] (kP [0,8] [] []))
 (.cond (.t 8)
 (.seq (.reg false [gI 2 (.mv (oI 2))] (kP [2] [] []))
 .ret)
 .skip))
 (.seq (.seq (.reg false [gM 9 0,gI 10 (.len (.t 9)),gI 11 (.mv (oI 0))] (kP [0,9,10,11] [] []))
 (.block 0 (.loop (.seq (.reg false [gI 12 (.bin .lss (.t 11) (.t 10))] (kP [0,9,10,11,12] [] []))
 (.seq (.cond (.t 12)
 .skip
 (.exit 0))
 (.seq (.block 1 (.seq (.reg false [gM 13 11,gI 14 (.iadr 2 (.t 9) (.t 11)),gI 15 (.load true 2 (.t 14)),gI 4 (.alloc [(.int .i64 (0)),(.int .i64 (0))]),gM 3 13,gN (.store 2 (.t 4) (.t 15))] (kP [0,3,4,9,10,11] [4] []))
 (.seq (.reg false [gI 16 (.fadr 0 (.t 4)),gI 17 (.load false 1 (.t 16)),gI 18 (.fadr 1 (.t 4)),gI 19 (.load false 1 (.t 18)),gI 20 (.bin .sub (.t 17) (.t 19)),gM 5 20] (kP [0,3,4,5,9,10,11] [4] []))
 (.block 2 (.seq (.reg false [gI 22 (.fadr 0 (.t 4)),gI 23 (.load false 1 (.t 22)),gI 24 (.call (.f 144) [(.t 23)]),gI 25 (.un .not (.t 24)),gM 26 25,gG 27 26 false (.fadr 1 (.t 4)),gG 28 26 false (.load false 1 (.t 27)),gG 29 26 false (.call (.f 144) [(.t 28)]),gG 30 26 false (.un .not (.t 29)),gI 31 (.pick (.t 26) (.v (.bool true)) (.t 30)),gM 32 31,gG 33 32 false (.mv (.t 5)),gG 34 32 false (.mv (.t 5)),gG 35 32 false (.un .neg (.t 34)),gG 36 32 false (.mnx true (.t 33) (.t 35)),gG 37 32 false (.bin .gtr (.t 36) (oI 3600000)),gI 38 (.pick (.t 32) (.v (.bool true)) (.t 37)),gM 21 38] (kP [0,3,4,9,10,11,21] [4] []))
 (.cond (.t 21)
 (.seq (.reg false [gI 2 (.mv (oI 1))] (kP [2] [] []))
 .ret)
 (.seq (.reg true [gM 40 3,gI 41 (.bin .gtr (.t 40) (oI 0)),gM 42 41,gG 43 42 true (.fadr 0 (.t 4)),gG 44 42 true (.load false 1 (.t 43)),gG 45 42 true (.mv (.t 0)),gG 46 42 true (.mv (.t 3)),gG 47 42 true (.bin .sub (.t 46) (oI 1)),gG 48 42 true (.iadr 2 (.t 45) (.t 47)),gG 49 42 true (.fadr 0 (.t 48)),gG 50 42 true (.load false 1 (.t 49)),gG 51 42 true (.bin .leq (.t 44) (.t 50)),gG 52 42 true (.mv (.t 51)),gG 53 52 false (.fadr 1 (.t 4)),gG 54 52 false (.load false 1 (.t 53)),gG 55 52 false (.mv (.t 0)),gG 56 52 false (.mv (.t 3)),gG 57 52 false (.bin .sub (.t 56) (oI 1)),gG 58 52 false (.iadr 2 (.t 55) (.t 57)),gG 59 52 false (.fadr 1 (.t 58)),gG 60 52 false (.load false 1 (.t 59)),gG 61 52 false (.bin .leq (.t 54) (.t 60)),gG 62 42 true (.pick (.t 52) (.v (.bool true)) (.t 61)),gI 63 (.pick (.t 42) (.t 62) (.v (.bool false))),gM 39 63] (kP [0,9,10,11,39] [] []))
 (.cond (.t 39)
 (.seq (.reg false [gI 2 (.mv (oI 7))] (kP [2] [] []))
 .ret)
 .skip))))))))
 (.reg false [gI 64 (.bin .add (.t 11) (oI 1)),gM 11 64] (kP [0,9,10,11] [] []))))))))
 (.seq (.reg false [gI 2 (.mv (oI 0))] (kP [2] [] []))
 .ret))))
theorem fc_cc1 : FcT Tryz.prog 97 Tryz.f97 C_cc1 [.t 2] := fc_mk [aN [0] [] [],aN [0,8] [] [],aN [2] [] [],aN [0,9,10,11] [] [],aN [0,9,10,11,12] [] [],aN [0,3,4,9,10,11] [4] [],aN [0,3,4,5,9,10,11] [4] [],aN [0,3,4,9,10,11,21] [4] [],aN [2] [] [],aN [0,9,10,11,39] [] [],aN [2] [] [],aN [0,9,10,11] [] [],aN [2] [] []] Tryz.func97 (by kernel_rfl)
def C_cc2 : AC := (.seq (.reg false [gI 2 (.mv (oI 0))] (kP [0] [] []))
 (.seq (.seq (.reg false [gM 5 0,gI 6 (.len (.t 5)),gI 7 (.bin .gtr (.t 6) (oI 2000))] (kP [0,7] [] []))
 (.cond (.t 7)
 (.seq (.reg false [gI 2 (.mv (oI 2))] (kP [2] [] []))
 .ret)
 .skip))
 (.seq (.seq (.reg false [gM 8 0,gI 9 (.len (.t 8)),gI 10 (.mv (oI 0))] (kP [0,8,9,10] [] []))
 (.block 0 (.loop (.seq (.reg false [gI 11 (.bin .lss (.t 10) (.t 9))] (kP [0,8,9,10,11] [] []))
 (.seq (.cond (.t 11)
 .skip
 (.exit 0))
 (.seq (.block 1 (.seq (.reg false [gM 12 10,gI 13 (.iadr 2 (.t 8) (.t 10)),gI 14 (.load true 2 (.t 13)),gI 4 (.alloc [(.int .i64 (0)),(.int .i64 (0))]),gM 3 12,gN (.store 2 (.t 4) (.t 14))] (kP [0,3,4,8,9,10] [4] []))
 (.block 2 (.seq (.reg false [gI 16 (.fadr 0 (.t 4)),gI 17 (.load false 1 (.t 16)),gI 18 (.call (.f 131) [(.t 17)]),gI 19 (.un .not (.t 18)),gM 20 19,gG 21 20 false (.fadr 1 (.t 4)),gG 22 20 false (.load false 1 (.t 21)),gG 23 20 false (.call (.f 131) [(.t 22)]),gG 24 20 false (.un .not (.t 23)),gI 25 (.pick (.t 20) (.v (.bool true)) (.t 24)),gM 26 25,gG 27 26 false (.fadr 0 (.t 4)),gG 28 26 false (.load false 1 (.t 27)),gG 29 26 false (.fadr 1 (.t 4)),gG 30 26 false (.load false 1 (.t 29)),gG 31 26 false (.bin .sub (.t 28) (.t 30)),gG 32 26 false (.fadr 1 (.t 4)),gG 33 26 false (.load false 1 (.t 32)),gG 34 26 false (.fadr 0 (.t 4)),gG 35 26 false (.load false 1 (.t 34)),gG 36 26 false (.bin .sub (.t 33) (.t 35)),gG 37 26 false (.mnx true (.t 31) (.t 36)),gG 38 26 false (.bin .gtr (.t 37) (oI 3600000)),gI 39 (.pick (.t 26) (.v (.bool true)) (.t 38)),gM 15 39] (kP [0,3,4,8,9,10,15] [4] []))
 (.cond (.t 15)
 (.seq (.reg false [gI 2 (.mv (oI 1))] (kP [2] [] []))
 .ret)
 (.seq (.reg true [gM 41 3,gI 42 (.bin .gtr (.t 41) (oI 0)),gM 43 42,gG 44 43 true (.fadr 0 (.t 4)),gG 45 43 true (.load false 1 (.t 44)),gG 46 43 true (.mv (.t 0)),gG 47 43 true (.mv (.t 3)),gG 48 43 true (.bin .sub (.t 47) (oI 1)),gG 49 43 true (.iadr 2 (.t 46) (.t 48)),gG 50 43 true (.fadr 0 (.t 49)),gG 51 43 true (.load false 1 (.t 50)),gG 52 43 true (.bin .leq (.t 45) (.t 51)),gG 53 43 true (.mv (.t 52)),gG 54 53 false (.fadr 1 (.t 4)),gG 55 53 false (.load false 1 (.t 54)),gG 56 53 false (.mv (.t 0)),gG 57 53 false (.mv (.t 3)),gG 58 53 false (.bin .sub (.t 57) (oI 1)),gG 59 53 false (.iadr 2 (.t 56) (.t 58)),gG 60 53 false (.fadr 1 (.t 59)),gG 61 53 false (.load false 1 (.t 60)),gG 62 53 false (.bin .leq (.t 55) (.t 61)),gG 63 43 true (.pick (.t 53) (.v (.bool true)) (.t 62)),gI 64 (.pick (.t 43) (.t 63) (.v (.bool false))),gM 40 64] (kP [0,8,9,10,40] [] []))
 (.cond (.t 40)
 (.seq (.reg false [gI 2 (.mv (oI 7))] (kP [2] [] []))
 .ret)
 .skip)))))))
 (.reg false [gI 65 (.bin .add (.t 10) (oI 1)),gM 10 65] (kP [0,8,9,10] [] []))))))))
 (.seq (.reg false [gI 2 (.mv (oI 0))] (kP [2] [] []))
 .ret))))
theorem fc_cc2 : FcT Tryz.prog 88 Tryz.f88 C_cc2 [.t 2] := fc_mk [aN [0] [] [],aN [0,7] [] [],aN [2] [] [],aN [0,8,9,10] [] [],aN [0,8,9,10,11] [] [],aN [0,3,4,8,9,10] [4] [],aN [0,3,4,8,9,10,15] [4] [],aN [2] [] [],aN [0,8,9,10,40] [] [],aN [2] [] [],aN [0,8,9,10] [] [],aN [2] [] []] Tryz.func88 (by kernel_rfl)
def A_cs1 : List Ann := [aN [0] [] [],aN [0,8] [] [],aN [2] [] [],aN [0,9,10,11] [] [],aN [0,9,10,11,12] [] [],aN [0,3,4,9,10,11] [4] [],aN [0,3,4,9,10,11,16] [4] [],aN [2] [] [],aN [0,4,9,10,11,21] [4] [],aN [2] [] [],aN [0,5,9,10,11] [] [],aN [0,5,9,10,11,39] [] [],aN [2] [] [],aN [0,9,10,11] [] [],aN [2] [] []]
def C_cs1 : AC := (.seq (.reg false [gI 2 (.mv (oI 0))] (kP [0] [] []))
 (.seq (.seq (.reg false [gM 6 0,gI 7 (.len (.t 6)),gI 8 (.bin .gtr (.t 7) (oI 50))] (kP [0,8] [] []))
 (.cond (.t 8)
 (.seq (.reg false [gI 2 (.mv (oI 2))] (kP [2] [] []))
 .ret)
 .skip))
 (.seq (.seq (.reg false [gM 9 0,gI 10 (.len (.t 9)),gI 11 (.mv (oI 0))] (kP [0,9,10,11] [] []))
 (.block 0 (.loop (.seq (.reg false [gI 12 (.bin .lss (.t 11) (.t 10))] (kP [0,9,10,11,12] [] []))
 (.seq (.cond (.t 12)
 .skip
 (.exit 0))
 (.seq (.block 1 (.seq (.reg false [gM 13 11,gI 14 (.iadr 2 (.t 9) (.t 11)),gI 15 (.load true 2 (.t 14)),gI 4 (.alloc [(.string (ByteArray.mk #[])),(.slice none 0 0)]),gM 3 13,gN (.store 2 (.t 4) (.t 15))] (kP [0,3,4,9,10,11] [4] []))
 (.seq (.block 2 (.seq (.reg false [gI 17 (.fadr 0 (.t 4)),gI 18 (.load false 1 (.t 17)),gI 19 (.call (.f 89) [(.t 18)]),gI 20 (.un .not (.t 19)),gM 16 20] (kP [0,3,4,9,10,11,16] [4] []))
 (.cond (.t 16)
 (.seq (.reg false [gI 2 (.mv (oI 5))] (kP [2] [] []))
 .ret)
 (.seq (.reg true [gM 22 3,gI 23 (.bin .gtr (.t 22) (oI 0)),gM 24 23,gG 25 24 true (.fadr 0 (.t 4)),gG 26 24 true (.load false 1 (.t 25)),gG 27 24 true (.mv (.t 0)),gG 28 24 true (.mv (.t 3)),gG 29 24 true (.bin .sub (.t 28) (oI 1)),gG 30 24 true (.iadr 2 (.t 27) (.t 29)),gG 31 24 true (.fadr 0 (.t 30)),gG 32 24 true (.load false 1 (.t 31)),gG 33 24 true (.bin .leq (.t 26) (.t 32)),gI 34 (.pick (.t 24) (.t 33) (.v (.bool false))),gM 21 34] (kP [0,4,9,10,11,21] [4] []))
 (.cond (.t 21)
 (.seq (.reg false [gI 2 (.mv (oI 7))] (kP [2] [] []))
 .ret)
 .skip)))))
 (.seq (.reg false [gI 35 (.fadr 1 (.t 4)),gI 36 (.load false 1 (.t 35)),gI 37 (.call (.f 97) [(.t 36)]),gM 5 37] (kP [0,5,9,10,11] [] []))
 (.seq (.reg false [gM 38 5,gI 39 (.bin .neq (.t 38) (oI 0))] (kP [0,5,9,10,11,39] [] []))
 (.cond (.t 39)
 (.seq (.reg false [gM 40 5,gM 2 40] (kP [2] [] []))
 .ret)
 .skip))))))
 (.reg false [gI 41 (.bin .add (.t 11) (oI 1)),gM 11 41] (kP [0,9,10,11] [] []))))))))
 (.seq (.reg false [gI 2 (.mv (oI 0))] (kP [2] [] []))
 .ret))))
def A_cs2 : List Ann := [aN [0] [] [],aN [0,9] [] [],aN [2] [] [],aN [0,3] [] [],aN [3,10,11,12] [] [],aN [3,10,11,12,13] [] [],aN [3,5,10,11,12] [5] [],aN [3,5,10,11,12,19] [5] [],aN [2] [] [],aN [5,10,11,12,23] [5] [],aN [2] [] [],aN [5,6,10,11,12] [5] [],aN [5,6,10,11,12,28] [5] [],aN [2] [] [],aN [3,10,11,12] [] [],aN [3,10,11,12] [] [],aN [2] [] []]
def C_cs2 : AC := (.seq (.reg false [gI 2 (.mv (oI 0))] (kP [0] [] []))
 (.seq (.seq (.reg false [gM 7 0,gI 8 (.len (.t 7)),gI 9 (.bin .gtr (.t 8) (oI 50))] (kP [0,9] [] []))
 (.cond (.t 9)
 (.seq (.reg false [gI 2 (.mv (oI 2))] (kP [2] [] []))
 .ret)
 .skip))
 (.seq (.reg false [gI 3 (.mv (.v (.string (ByteArray.mk #[]))))] (kP [0,3] [] []))
 (.seq (.seq (.reg false [gM 10 0,gI 11 (.len (.t 10)),gI 12 (.mv (oI 0))] (kP [3,10,11,12] [] []))
 (.block 0 (.loop (.seq (.reg false [gI 13 (.bin .lss (.t 12) (.t 11))] (kP [3,10,11,12,13] [] []))
 (.seq (.cond (.t 13)
 .skip
 (.exit 0))
 (.seq (.block 1 (.seq (.reg false [gI 14 (.iadr 2 (.t 10) (.t 12)),gI 15 (.load true 2 (.t 14)),gI 5 (.alloc [(.string (ByteArray.mk #[])),(.slice none 0 0)]),gN (.store 2 (.t 5) (.t 15))] (kP [3,5,10,11,12] [5] []))
 (.seq (.seq (.reg false [gI 16 (.fadr 0 (.t 5)),gI 17 (.load false 1 (.t 16)),gI 18 (.call (.f 79) [(.t 17)]),gI 19 (.un .not (.t 18))] (kP [3,5,10,11,12,19] [5] []))
 (.cond (.t 19)
 (.seq (.reg false [gI 2 (.mv (oI 5))] (kP [2] [] []))
 .ret)
 .skip))
 (.seq (.seq (.reg false [gI 20 (.fadr 0 (.t 5)),gI 21 (.load false 1 (.t 20)),gM 22 3,gI 23 (.bin .leq (.t 21) (.t 22))] (kP [5,10,11,12,23] [5] []))
 (.cond (.t 23)
 (.seq (.reg false [gI 2 (.mv (oI 7))] (kP [2] [] []))
 .ret)
 .skip))
 (.seq (.seq (.reg false [gI 24 (.fadr 1 (.t 5)),gI 25 (.load false 1 (.t 24)),gI 26 (.call (.f 88) [(.t 25)]),gM 6 26] (kP [5,6,10,11,12] [5] []))
 (.seq (.reg false [gM 27 6,gI 28 (.bin .neq (.t 27) (oI 0))] (kP [5,6,10,11,12,28] [5] []))
 (.cond (.t 28)
 (.seq (.reg false [gM 29 6,gM 2 29] (kP [2] [] []))
 .ret)
 .skip)))
 (.reg false [gI 30 (.fadr 0 (.t 5)),gI 31 (.load false 1 (.t 30)),gM 3 31] (kP [3,10,11,12] [] [])))))))
 (.reg false [gI 32 (.bin .add (.t 12) (oI 1)),gM 12 32] (kP [3,10,11,12] [] []))))))))
 (.seq (.reg false [gI 2 (.mv (oI 0))] (kP [2] [] []))
 .ret)))))
abbrev CK := Int × Int
def kcE (x : CK) : List Cel := [.g (.int .i64 x.1), .g (.int .i64 x.2)]
theorem kcE_eq (x : CK) : kcE x = [.g (.int .i64 x.1), .g (.int .i64 x.2)] := rfl
attribute [go_sem] kcE_eq
def ckFault (x : CK) : Int := if (x.1 < 0 ∨ x.1 > 345686399999) ∨ (x.2 < 0 ∨ x.2 > 345686399999) ∨ x.1 - x.2 > 3600000 ∨ x.2 - x.1 > 3600000 then 1 else 0
def ckGo : Option CK → List CK → Int
 | _, [] => 0
 | p, x :: t => if ckFault x ≠ 0 then 1 else if (match p with | none => false | some y => decide (x.1 ≤ y.1 ∨ x.2 ≤ y.2)) then 7 else ckGo (some x) t
def ckF (l : List CK) : Int := if 2000 < l.length then 2 else ckGo none l
def prvK (l : List CK) (i : Nat) : Option CK := if i = 0 then none else some (l.getD (i - 1) default)
theorem ckGo_step (l : List CK) (i : Nat) (h : i < l.length) : ckGo (prvK l i) (l.drop i) = if ckFault (l.getD i default) ≠ 0 then 1 else if (0 < i ∧ ((l.getD i default).1 ≤ (l.getD (i - 1) default).1 ∨ (l.getD i default).2 ≤ (l.getD (i - 1) default).2)) then 7 else ckGo (prvK l (i + 1)) (l.drop (i + 1)) := by
 have e : l.drop i = l.getD i default :: l.drop (i + 1) := by
  rw [List.drop_eq_getElem_cons h]; simp [List.getD_eq_getElem?_getD, h]
 rw [e, ckGo.eq_def]
 simp only []
 by_cases hi : i = 0
 ·subst hi; simp [prvK]
 ·have : 0 < i := by omega
  simp [prvK, hi, this]
abbrev kcs (l : List CK) : Val := .one (.sl false 2 (l.map kcE))
def ccSt (l : List CK) (i : Int) : AS := ⟨tabV [(0, kcs l), (9, kcs l), (10, iv l.length), (11, iv i)], tabO [], tabO []⟩
theorem ck_wrap (a b : Int) (h1 : 0 ≤ a) (h2 : a ≤ 345686399999) (h3 : 0 ≤ b) (h4 : b ≤ 345686399999) :
  (3600000 < max (IntKind.i64.wrap (a - b)) (IntKind.i64.wrap (0 - IntKind.i64.wrap (a - b)))) = (a - b > 3600000 ∨ b - a > 3600000) := by
 have e1 : IntKind.i64.wrap (a - b) = a - b := by rw [IntKind.wrap_i64]; omega
 have e2 : IntKind.i64.wrap (0 - (a - b)) = b - a := by rw [IntKind.wrap_i64]; omega
 rw [e1, e2]
 exact propext (by omega)
theorem ck_wrap2 (a b : Int) (h1 : 0 ≤ a) (h2 : a ≤ 345686399999) (h3 : 0 ≤ b) (h4 : b ≤ 345686399999) :
  (3600000 < max (IntKind.i64.wrap (a - b)) (IntKind.i64.wrap (b - a))) = (a - b > 3600000 ∨ b - a > 3600000) := by
 have e1 : IntKind.i64.wrap (a - b) = a - b := by rw [IntKind.wrap_i64]; omega
 have e2 : IntKind.i64.wrap (b - a) = b - a := by rw [IntKind.wrap_i64]; omega
 rw [e1, e2]
 exact propext (by omega)
theorem cc1_fc (l : List CK) (hl : l.length ≤ 1000000) : FC Tryz.prog 97 none [kcs l] (fun _ r => r = iv (ckF l)) := by
 refine fc_cc1 (by simp +arith) ?_
 unfold C_cc1
 simp (maxSteps := 1000000) (disch := omega) only [go_sem]
 refine ⟨fun h => iv_congr (by unfold ckF; rw [if_pos (by omega)]), fun h => ?_⟩
 refine ex_loopI (ccSt l) (fun i => 0 ≤ i ∧ i ≤ l.length ∧ ckGo (prvK l i.toNat) (l.drop i.toNat) = ckF l) (fun i => (l.length - i).toNat) 0 ⟨by omega, by omega, by unfold ckF; rw [if_neg (by omega)]; rfl⟩ rfl ?_
 rintro i ⟨g1, g2, g3⟩
 unfold ccSt
 simp (maxSteps := 1000000) (disch := omega) only [go_sem]
 refine ⟨fun hi => and_then ⟨by omega, by omega⟩ fun _ => ?_, fun hi => ?_⟩
 ·have g4 := ckGo_step l i.toNat (by omega)
  rw [g3] at g4
  rw [getD_map_in kcE l i.toNat [] (by omega)]
  rw [kcE_eq]
  simp (maxSteps := 1000000) (disch := omega) only [go_sem]
  refine CALL_det (moment_fc _) (.inl rfl) ?_
  simp (maxSteps := 1000000) (disch := omega) only [go_sem]
  have e1 : (i - 1).toNat = i.toNat - 1 := by omega
  have e2 : (i + 1).toNat = i.toNat + 1 := by omega
  generalize hx : l.getD i.toNat default = x at *
  have bad : ckFault x ≠ 0 → Val.one (.g (.int .i64 1)) = iv (ckF l) := fun h => iv_congr (by rw [g4, if_pos h])
  refine ⟨fun h1 => ?_, fun h1 => bad (by unfold ckFault; rw [if_pos (by omega)]; omega)⟩
  refine CALL_det (moment_fc _) (.inl rfl) ?_
  simp (maxSteps := 1000000) (disch := omega) only [go_sem]
  rw [e1]
  generalize hy : l.getD (i.toNat - 1) default = y at *
  refine ⟨fun h2 => ?_, fun h2 => bad (by unfold ckFault; rw [if_pos (by omega)]; omega)⟩
  have h3 := ck_wrap x.1 x.2 (by omega) (by omega) (by omega) (by omega)
  rw [h3]
  refine ⟨fun h4 => bad (by unfold ckFault; rw [if_pos (by omega)]; omega), fun h4 => ?_⟩
  have hok : ckFault x = 0 := by unfold ckFault; rw [if_neg (by omega)]
  have next : ¬ (0 < i.toNat ∧ (x.1 ≤ y.1 ∨ x.2 ≤ y.2)) → ckGo (prvK l (i.toNat + 1)) (List.drop (i.toNat + 1) l) = ckF l := fun h => by rw [g4, if_neg (by omega), if_neg h]
  have ord : 0 < i.toNat ∧ (x.1 ≤ y.1 ∨ x.2 ≤ y.2) → Val.one (.g (.int .i64 7)) = iv (ckF l) := fun h => iv_congr (by rw [g4, if_neg (by omega), if_pos h])
  refine ⟨fun h5 => ⟨⟨by omega, by omega⟩, fun h6 => ⟨⟨by omega, by omega⟩, fun h7 => ord (by omega), fun h7 => ⟨i + 1, ⟨by omega, by omega, by rw [e2]; exact next (by omega)⟩, rfl, by omega⟩⟩, fun h6 => ord (by omega)⟩, fun h5 => ⟨i + 1, ⟨by omega, by omega, by rw [e2]; exact next (by omega)⟩, rfl, by omega⟩⟩
 ·refine iv_congr ?_
  rw [← g3, List.drop_eq_nil_of_le (by omega)]
  simp [ckGo]
def ccSt2 (l : List CK) (i : Int) : AS := ⟨tabV [(0, kcs l), (8, kcs l), (9, iv l.length), (10, iv i)], tabO [], tabO []⟩
theorem cc2_fc (l : List CK) (hl : l.length ≤ 1000000) : FC Tryz.prog 88 none [kcs l] (fun _ r => r = iv (ckF l)) := by
 refine fc_cc2 (by simp +arith) ?_
 unfold C_cc2
 simp (maxSteps := 1000000) (disch := omega) only [go_sem]
 refine ⟨fun h => iv_congr (by unfold ckF; rw [if_pos (by omega)]), fun h => ?_⟩
 refine ex_loopI (ccSt2 l) (fun i => 0 ≤ i ∧ i ≤ l.length ∧ ckGo (prvK l i.toNat) (l.drop i.toNat) = ckF l) (fun i => (l.length - i).toNat) 0 ⟨by omega, by omega, by unfold ckF; rw [if_neg (by omega)]; rfl⟩ rfl ?_
 rintro i ⟨g1, g2, g3⟩
 unfold ccSt2
 simp (maxSteps := 1000000) (disch := omega) only [go_sem]
 refine ⟨fun hi => and_then ⟨by omega, by omega⟩ fun _ => ?_, fun hi => ?_⟩
 ·have g4 := ckGo_step l i.toNat (by omega)
  rw [g3] at g4
  rw [getD_map_in kcE l i.toNat [] (by omega)]
  rw [kcE_eq]
  simp (maxSteps := 1000000) (disch := omega) only [go_sem]
  refine CALL_det (rmoment2_fc _) (.inl rfl) ?_
  simp (maxSteps := 1000000) (disch := omega) only [go_sem]
  have e1 : (i - 1).toNat = i.toNat - 1 := by omega
  have e2 : (i + 1).toNat = i.toNat + 1 := by omega
  generalize hx : l.getD i.toNat default = x at *
  have bad : ckFault x ≠ 0 → Val.one (.g (.int .i64 1)) = iv (ckF l) := fun h => iv_congr (by rw [g4, if_pos h])
  refine ⟨fun h1 => ?_, fun h1 => bad (by unfold ckFault; rw [if_pos (by omega)]; omega)⟩
  refine CALL_det (rmoment2_fc _) (.inl rfl) ?_
  simp (maxSteps := 1000000) (disch := omega) only [go_sem]
  rw [e1]
  generalize hy : l.getD (i.toNat - 1) default = y at *
  refine ⟨fun h2 => ?_, fun h2 => bad (by unfold ckFault; rw [if_pos (by omega)]; omega)⟩
  have h3 := ck_wrap2 x.1 x.2 (by omega) (by omega) (by omega) (by omega)
  rw [h3]
  refine ⟨fun h4 => bad (by unfold ckFault; rw [if_pos (by omega)]; omega), fun h4 => ?_⟩
  have hok : ckFault x = 0 := by unfold ckFault; rw [if_neg (by omega)]
  have next : ¬ (0 < i.toNat ∧ (x.1 ≤ y.1 ∨ x.2 ≤ y.2)) → ckGo (prvK l (i.toNat + 1)) (List.drop (i.toNat + 1) l) = ckF l := fun h => by rw [g4, if_neg (by omega), if_neg h]
  have ord : 0 < i.toNat ∧ (x.1 ≤ y.1 ∨ x.2 ≤ y.2) → Val.one (.g (.int .i64 7)) = iv (ckF l) := fun h => iv_congr (by rw [g4, if_neg (by omega), if_pos h])
  refine ⟨fun h5 => ⟨⟨by omega, by omega⟩, fun h6 => ⟨⟨by omega, by omega⟩, fun h7 => ord (by omega), fun h7 => ⟨i + 1, ⟨by omega, by omega, by rw [e2]; exact next (by omega)⟩, rfl, by omega⟩⟩, fun h6 => ord (by omega)⟩, fun h5 => ⟨i + 1, ⟨by omega, by omega, by rw [e2]; exact next (by omega)⟩, rfl, by omega⟩⟩
 ·refine iv_congr ?_
  rw [← g3, List.drop_eq_nil_of_le (by omega)]
  simp [ckGo]
end Go.Proofs.YtdhkejcldipbmaaGreatDoor

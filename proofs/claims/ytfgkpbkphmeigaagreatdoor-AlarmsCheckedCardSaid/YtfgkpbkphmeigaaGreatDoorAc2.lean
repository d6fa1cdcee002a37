/-
 Acts: what is wrong with them; the order of acts.
 Right acts are let by.
-/
import Derived.Test.YtfgkpbkphmeigaaGreatDoorAlx
namespace Go.Proofs.YtfgkpbkphmeigaaGreatDoor
open Go Go.Ai
set_option linter.unusedSimpArgs false
set_option linter.unusedVariables false
set_option maxHeartbeats 4000000
def C_orI : AC := (.seq (.reg false [gI 2 (.mv (oI 0))] (kP [0] [] []))
 (.seq (.reg false [gI 3 (.mv (oI 0))] (kP [0,3] [] []))
 (.seq (.seq (.reg false [gM 6 0,gI 7 (.len (.t 6)),gI 8 (.mv (oI 0))] (kP [3,6,7,8] [] []))
 (.block 0 (.loop (.seq (.reg false [gI 9 (.bin .lss (.t 8) (.t 7))] (kP [3,6,7,8,9] [] []))
 (.seq (.cond (.t 9)
 .skip
 (.exit 0))
 (.seq (.block 1 (.seq (.reg false [gI 10 (.iadr 1 (.t 6) (.t 8)),gI 11 (.load false 1 (.t 10)),gM 5 11] (kP [3,5,6,7,8] [] []))
 (.seq (.reg false [gM 12 5,gM 13 3,gI 14 (.bin .neq (.t 12) (.t 13))] (kP [3,5,6,7,8,14] [] []))
 (.cond (.t 14)
 (.seq (.reg false [gM 15 5,gM 2 15] (kP [2] [] []))
 .ret)
 .skip))))
 (.reg false [gI 16 (.bin .add (.t 8) (oI 1)),gM 8 16] (kP [3,6,7,8] [] []))))))))
 (.seq (.reg false [gM 17 3,gM 2 17] (kP [2] [] []))
 .ret))))
theorem fc_orI : FcT Tryz.prog 176 Tryz.f176 C_orI [.t 2] := fc_mk [aN [0] [] [],aN [0,3] [] [],aN [3,6,7,8] [] [],aN [3,6,7,8,9] [] [],aN [3,5,6,7,8] [] [],aN [3,5,6,7,8,14] [] [],aN [2] [] [],aN [3,6,7,8] [] [],aN [2] [] []] Tryz.func176 (by kernel_rfl)
def C_ractF : AC := (.seq (.reg false [gI 1 (.box (.t 0)),gI 2 (.mv (oI 0))] (kP [1] [1] []))
 (.seq (.block 0 (.seq (.reg false [gI 4 (.fadr 0 (.t 1)),gI 5 (.load false 1 (.t 4)),gI 6 (.call (.f 84) [(.t 5)]),gI 7 (.un .not (.t 6)),gM 3 7] (kP [1,3] [1] []))
 (.cond (.t 3)
 (.seq (.reg false [gI 2 (.mv (oI 5))] (kP [2] [] []))
 .ret)
 (.seq (.reg false [gI 9 (.fadr 1 (.t 1)),gI 10 (.load false 1 (.t 9)),gI 11 (.call (.f 116) [(.t 10),(oI 1),(oI 2000)]),gI 12 (.un .not (.t 11)),gM 13 12,gG 14 13 false (.fadr 2 (.t 1)),gG 15 13 false (.load false 1 (.t 14)),gG 16 13 false (.call (.f 62) [(.t 15)]),gG 17 13 false (.bin .neq (.t 16) (oI 0)),gI 18 (.pick (.t 13) (.v (.bool true)) (.t 17)),gM 8 18] (kP [1,8] [1] []))
 (.cond (.t 8)
 (.seq (.reg false [gI 2 (.mv (oI 1))] (kP [2] [] []))
 .ret)
 (.seq (.reg false [gI 20 (.fadr 3 (.t 1)),gI 21 (.load false 1 (.t 20)),gI 22 (.call (.f 116) [(.t 21),(oI 1),(oI 3)]),gI 23 (.un .not (.t 22)),gM 19 23] (kP [1,19] [1] []))
 (.cond (.t 19)
 (.seq (.reg false [gI 2 (.mv (oI 4))] (kP [2] [] []))
 .ret)
 (.seq (.reg false [gI 25 (.fadr 4 (.t 1)),gI 26 (.load false 1 (.t 25)),gI 27 (.call (.f 84) [(.t 26)]),gI 28 (.un .not (.t 27)),gM 24 28] (kP [1,24] [1] []))
 (.cond (.t 24)
 (.seq (.reg false [gI 2 (.mv (oI 5))] (kP [2] [] []))
 .ret)
 (.seq (.reg false [gI 30 (.fadr 3 (.t 1)),gI 31 (.load false 1 (.t 30)),gI 32 (.bin .eql (.t 31) (oI 2)),gM 33 32,gG 34 33 true (.fadr 5 (.t 1)),gG 35 33 true (.load false 1 (.t 34)),gG 36 33 true (.fadr 2 (.t 1)),gG 37 33 true (.load false 1 (.t 36)),gG 38 33 true (.bin .add (.t 37) (oI 1)),gG 39 33 true (.call (.f 116) [(.t 35),(.t 38),(oI 345686400000)]),gG 40 33 true (.un .not (.t 39)),gI 41 (.pick (.t 33) (.t 40) (.v (.bool false))),gM 29 41] (kP [1,29] [1] []))
 (.cond (.t 29)
 (.seq (.reg false [gI 2 (.mv (oI 1))] (kP [2] [] []))
 .ret)
 (.seq (.reg false [gI 43 (.fadr 3 (.t 1)),gI 44 (.load false 1 (.t 43)),gI 45 (.bin .neq (.t 44) (oI 2)),gM 46 45,gG 47 46 true (.fadr 5 (.t 1)),gG 48 46 true (.load false 1 (.t 47)),gG 49 46 true (.bin .neq (.t 48) (oI 0)),gI 50 (.pick (.t 46) (.t 49) (.v (.bool false))),gM 42 50] (kP [42] [] []))
 (.cond (.t 42)
 (.seq (.reg false [gI 2 (.mv (oI 3))] (kP [2] [] []))
 .ret)
 .skip)))))))))))))
 (.seq (.reg false [gI 2 (.mv (oI 0))] (kP [2] [] []))
 .ret)))
theorem fc_ractF : FcT Tryz.prog 77 Tryz.f77 C_ractF [.t 2] := fc_mk [aN [1] [1] [],aN [1,3] [1] [],aN [2] [] [],aN [1,8] [1] [],aN [2] [] [],aN [1,19] [1] [],aN [2] [] [],aN [1,24] [1] [],aN [2] [] [],aN [1,29] [1] [],aN [2] [] [],aN [42] [] [],aN [2] [] [],aN [2] [] []] Tryz.func77 (by kernel_rfl)
def C_rbyAct : AC := (.seq (.reg false [gI 2 (.box (.t 0)),gI 3 (.box (.t 1)),gI 4 (.mv (oI 0))] (kP [2,3] [2,3] []))
 (.seq (.reg true [gI 5 (.fadr 0 (.t 2)),gI 6 (.load false 1 (.t 5)),gI 7 (.fadr 0 (.t 3)),gI 8 (.load false 1 (.t 7)),gI 9 (.call (.f 177) [(.t 6),(.t 8)]),gI 10 (.fadr 1 (.t 2)),gI 11 (.load false 1 (.t 10)),gI 12 (.fadr 1 (.t 3)),gI 13 (.load false 1 (.t 12)),gI 14 (.call (.f 162) [(.t 11),(.t 13)]),gI 15 (.bslice 1 2 [(.t 9),(.t 14)]),gI 16 (.call (.f 176) [(.t 15)]),gM 4 16] (kP [4] [] []))
 .ret))
theorem fc_rbyAct : FcT Tryz.prog 78 Tryz.f78 C_rbyAct [.t 4] := fc_mk [aN [2,3] [2,3] [],aN [4] [] []] Tryz.func78 (by kernel_rfl)
def C_ractsF : AC := (.seq (.reg false [gI 2 (.mv (oI 0))] (kP [0] [] []))
 (.seq (.seq (.reg false [gM 7 0,gI 8 (.len (.t 7)),gI 9 (.bin .gtr (.t 8) (oI 2000))] (kP [0,9] [] []))
 (.cond (.t 9)
 (.seq (.reg false [gI 2 (.mv (oI 2))] (kP [2] [] []))
 .ret)
 .skip))
 (.seq (.reg false [gI 3 (.mv (.v (.bool false)))] (kP [0,3] [] []))
 (.seq (.seq (.reg false [gM 10 0,gI 11 (.len (.t 10)),gI 12 (.mv (oI 0))] (kP [0,3,10,11,12] [] []))
 (.block 0 (.loop (.seq (.reg false [gI 13 (.bin .lss (.t 12) (.t 11))] (kP [0,3,10,11,12,13] [] []))
 (.seq (.cond (.t 13)
 .skip
 (.exit 0))
 (.seq (.block 1 (.seq (.reg false [gM 14 12,gI 15 (.iadr 6 (.t 10) (.t 12)),gI 16 (.load true 6 (.t 15)),gI 5 (.alloc [(.string (ByteArray.mk #[])),(.int .i64 (0)),(.int .i64 (0)),(.int .i64 (0)),(.string (ByteArray.mk #[])),(.int .i64 (0))]),gM 4 14,gN (.store 6 (.t 5) (.t 16))] (kP [0,3,4,5,10,11,12] [5] []))
 (.seq (.seq (.reg false [gI 17 (.load true 6 (.t 5)),gI 18 (.call (.f 77) [(.t 17)]),gM 6 18] (kP [0,3,4,5,6,10,11,12] [5] []))
 (.seq (.reg false [gM 19 6,gI 20 (.bin .neq (.t 19) (oI 0))] (kP [0,3,4,5,6,10,11,12,20] [5] []))
 (.cond (.t 20)
 (.seq (.reg false [gM 21 6,gM 2 21] (kP [2] [] []))
 .ret)
 .skip)))
 (.seq (.reg false [gM 22 4,gI 23 (.bin .gtr (.t 22) (oI 0))] (kP [0,3,4,5,10,11,12,23] [5] []))
 (.cond (.t 23)
 (.seq (.seq (.reg true [gM 24 0,gM 25 4,gI 26 (.bin .sub (.t 25) (oI 1)),gI 27 (.iadr 6 (.t 24) (.t 26)),gI 28 (.load true 6 (.t 27)),gI 29 (.load true 6 (.t 5)),gI 30 (.call (.f 78) [(.t 28),(.t 29)]),gI 31 (.bin .geq (.t 30) (oI 0))] (kP [0,3,4,5,10,11,12,31] [5] []))
 (.cond (.t 31)
 (.seq (.reg false [gI 2 (.mv (oI 7))] (kP [2] [] []))
 .ret)
 .skip))
 (.reg true [gM 32 3,gM 33 32,gG 34 33 false (.mv (.t 0)),gG 35 33 false (.mv (.t 4)),gG 36 33 false (.bin .sub (.t 35) (oI 1)),gG 37 33 false (.iadr 6 (.t 34) (.t 36)),gG 38 33 false (.fadr 0 (.t 37)),gG 39 33 false (.load false 1 (.t 38)),gG 40 33 false (.fadr 0 (.t 5)),gG 41 33 false (.load false 1 (.t 40)),gG 42 33 false (.bin .eql (.t 39) (.t 41)),gG 43 33 false (.mv (.t 42)),gG 44 43 true (.fadr 2 (.t 5)),gG 45 43 true (.load false 1 (.t 44)),gG 46 43 true (.mv (.t 0)),gG 47 43 true (.mv (.t 4)),gG 48 43 true (.bin .sub (.t 47) (oI 1)),gG 49 43 true (.iadr 6 (.t 46) (.t 48)),gG 50 43 true (.fadr 2 (.t 49)),gG 51 43 true (.load false 1 (.t 50)),gG 52 43 true (.bin .lss (.t 45) (.t 51)),gG 53 33 false (.pick (.t 43) (.t 52) (.v (.bool false))),gI 54 (.pick (.t 33) (.v (.bool true)) (.t 53)),gM 3 54] (kP [0,3,10,11,12] [] [])))
 .skip)))))
 (.reg false [gI 55 (.bin .add (.t 12) (oI 1)),gM 12 55] (kP [0,3,10,11,12] [] []))))))))
 (.seq (.seq (.reg false [gM 56 3] (kP [56] [] []))
 (.cond (.t 56)
 (.seq (.reg false [gI 2 (.mv (oI 7))] (kP [2] [] []))
 .ret)
 .skip))
 (.seq (.reg false [gI 2 (.mv (oI 0))] (kP [2] [] []))
 .ret))))))
theorem fc_ractsF : FcT Tryz.prog 13 Tryz.f13 C_ractsF [.t 2] := fc_mk [aN [0] [] [],aN [0,9] [] [],aN [2] [] [],aN [0,3] [] [],aN [0,3,10,11,12] [] [],aN [0,3,10,11,12,13] [] [],aN [0,3,4,5,10,11,12] [5] [],aN [0,3,4,5,6,10,11,12] [5] [],aN [0,3,4,5,6,10,11,12,20] [5] [],aN [2] [] [],aN [0,3,4,5,10,11,12,23] [5] [],aN [0,3,4,5,10,11,12,31] [5] [],aN [2] [] [],aN [0,3,10,11,12] [] [],aN [0,3,10,11,12] [] [],aN [56] [] [],aN [2] [] [],aN [2] [] []] Tryz.func13 (by kernel_rfl)
def C_actF : AC := (.seq (.reg false [gI 1 (.box (.t 0)),gI 2 (.mv (oI 0))] (kP [1] [1] []))
 (.seq (.block 0 (.seq (.reg false [gI 4 (.fadr 0 (.t 1)),gI 5 (.load false 1 (.t 4)),gI 6 (.call (.f 82) [(.t 5)]),gI 7 (.un .not (.t 6)),gM 3 7] (kP [1,3] [1] []))
 (.cond (.t 3)
 (.seq (.reg false [gI 2 (.mv (oI 5))] (kP [2] [] []))
 .ret)
 (.seq (.reg false [gI 9 (.fadr 1 (.t 1)),gI 10 (.load false 1 (.t 9)),gI 11 (.call (.f 118) [(.t 10),(oI 1),(oI 2000)]),gM 12 11,gG 13 12 false (.fadr 2 (.t 1)),gG 14 12 false (.load false 1 (.t 13)),gG 15 12 false (.call (.f 154) [(.t 14)]),gG 16 12 false (.un .not (.t 15)),gI 17 (.pick (.t 12) (.v (.bool true)) (.t 16)),gM 8 17] (kP [1,8] [1] []))
 (.cond (.t 8)
 (.seq (.reg false [gI 2 (.mv (oI 1))] (kP [2] [] []))
 .ret)
 (.seq (.reg false [gI 19 (.fadr 3 (.t 1)),gI 20 (.load false 1 (.t 19)),gI 21 (.call (.f 118) [(.t 20),(oI 1),(oI 3)]),gM 18 21] (kP [1,18] [1] []))
 (.cond (.t 18)
 (.seq (.reg false [gI 2 (.mv (oI 4))] (kP [2] [] []))
 .ret)
 (.seq (.reg false [gI 23 (.fadr 4 (.t 1)),gI 24 (.load false 1 (.t 23)),gI 25 (.call (.f 82) [(.t 24)]),gI 26 (.un .not (.t 25)),gM 22 26] (kP [1,22] [1] []))
 (.cond (.t 22)
 (.seq (.reg false [gI 2 (.mv (oI 5))] (kP [2] [] []))
 .ret)
 (.seq (.reg false [gI 28 (.fadr 3 (.t 1)),gI 29 (.load false 1 (.t 28)),gI 30 (.bin .eql (.t 29) (oI 2)),gM 31 30,gG 32 31 true (.fadr 5 (.t 1)),gG 33 31 true (.load false 1 (.t 32)),gG 34 31 true (.fadr 2 (.t 1)),gG 35 31 true (.load false 1 (.t 34)),gG 36 31 true (.bin .leq (.t 33) (.t 35)),gG 37 31 true (.mv (.t 36)),gG 38 37 false (.fadr 5 (.t 1)),gG 39 37 false (.load false 1 (.t 38)),gG 40 37 false (.bin .gtr (.t 39) (oI 345686400000)),gG 41 31 true (.pick (.t 37) (.v (.bool true)) (.t 40)),gI 42 (.pick (.t 31) (.t 41) (.v (.bool false))),gM 27 42] (kP [1,27] [1] []))
 (.cond (.t 27)
 (.seq (.reg false [gI 2 (.mv (oI 1))] (kP [2] [] []))
 .ret)
 (.seq (.reg false [gI 44 (.fadr 3 (.t 1)),gI 45 (.load false 1 (.t 44)),gI 46 (.bin .neq (.t 45) (oI 2)),gM 47 46,gG 48 47 true (.fadr 5 (.t 1)),gG 49 47 true (.load false 1 (.t 48)),gG 50 47 true (.bin .neq (.t 49) (oI 0)),gI 51 (.pick (.t 47) (.t 50) (.v (.bool false))),gM 43 51] (kP [43] [] []))
 (.cond (.t 43)
 (.seq (.reg false [gI 2 (.mv (oI 3))] (kP [2] [] []))
 .ret)
 .skip)))))))))))))
 (.seq (.reg false [gI 2 (.mv (oI 0))] (kP [2] [] []))
 .ret)))
theorem fc_actF : FcT Tryz.prog 86 Tryz.f86 C_actF [.t 2] := fc_mk [aN [1] [1] [],aN [1,3] [1] [],aN [2] [] [],aN [1,8] [1] [],aN [2] [] [],aN [1,18] [1] [],aN [2] [] [],aN [1,22] [1] [],aN [2] [] [],aN [1,27] [1] [],aN [2] [] [],aN [43] [] [],aN [2] [] [],aN [2] [] []] Tryz.func86 (by kernel_rfl)
def C_byOp : AC := (.seq (.reg false [gI 2 (.box (.t 0)),gI 3 (.box (.t 1)),gI 4 (.mv (oI 0))] (kP [2,3] [2,3] []))
 (.seq (.reg true [gI 5 (.fadr 0 (.t 2)),gI 6 (.load false 1 (.t 5)),gI 7 (.fadr 0 (.t 3)),gI 8 (.load false 1 (.t 7)),gI 9 (.call (.f 177) [(.t 6),(.t 8)]),gI 10 (.fadr 1 (.t 2)),gI 11 (.load false 1 (.t 10)),gI 12 (.fadr 1 (.t 3)),gI 13 (.load false 1 (.t 12)),gI 14 (.call (.f 162) [(.t 11),(.t 13)]),gI 15 (.bslice 1 2 [(.t 9),(.t 14)]),gI 16 (.call (.f 176) [(.t 15)]),gM 4 16] (kP [4] [] []))
 .ret))
theorem fc_byOp : FcT Tryz.prog 87 Tryz.f87 C_byOp [.t 4] := fc_mk [aN [2,3] [2,3] [],aN [4] [] []] Tryz.func87 (by kernel_rfl)
def C_momF : AC := (.seq (.reg false [gI 2 (.mv (oI 0))] (kP [0] [] []))
 (.seq (.reg false [gM 3 0,gI 4 (.call (.f 63) [(.t 3),(oI 0),(oI 345686399999)]),gM 2 4] (kP [2] [] []))
 .ret))
theorem fc_momF : FcT Tryz.prog 62 Tryz.f62 C_momF [.t 2] := fc_mk [aN [0] [] [],aN [2] [] []] Tryz.func62 (by kernel_rfl)
def orISt (l : List Int) (i : Int) : AS := ⟨tabV [(3, iv 0), (6, ints false l), (7, iv l.length), (8, iv i)], tabO [], tabO []⟩
theorem orI_fc (l : List Int) (hl : l.length ≤ 4611686018427387904) : FC Tryz.prog 176 none [ints false l] (fun _ r => r = iv (orSp l)) := by
 refine fc_orI (by simp +arith) ?_
 unfold C_orI
 simp (maxSteps := 1000000) (disch := omega) only [go_sem]
 refine ex_loop1 (orISt l) (fun i => 0 ≤ i ∧ i ≤ l.length ∧ orSp (l.drop i.toNat) = orSp l) (fun i => (l.length - i).toNat) 0 ⟨by omega, by omega, rfl⟩ rfl ?_
 rintro i ⟨g1, g2, g3⟩
 unfold orISt
 by_cases hi : i < l.length
 ·rw [drop_cons l i.toNat (by omega), orSp] at g3
  have e2 : (i + 1).toNat = i.toNat + 1 := by omega
  by_cases h : l.getD i.toNat default ≠ 0
  ·rw [if_pos h] at g3
   rw [← g3]
   simp (maxSteps := 1000000) (disch := omega) only [go_sem]
  ·rw [if_neg h] at g3
   simp (maxSteps := 1000000) (disch := omega) only [go_sem]
   exact ⟨i + 1, rfl, ⟨by omega, by omega, by rw [e2]; exact g3⟩, by omega⟩
 ·rw [List.drop_eq_nil_of_le (by omega), orSp] at g3
  simp (maxSteps := 1000000) (disch := omega) only [go_sem]
  rw [← g3]
theorem cmpO_or (x y : Opr) : orSp [cmpS x.b y.b, sd y.no x.no] = cmpO x y := by
 unfold cmpO
 simp only [orSp]
 split
 ·rfl
 ·show (if sd y.no x.no ≠ 0 then sd y.no x.no else 0) = sd y.no x.no
  split
  ·rfl
  ·omega
theorem momF_fc (n : Int) : FC Tryz.prog 62 none [iv n] (fun _ r => r = iv (if 0 ≤ n ∧ n ≤ 345686399999 then 0 else 1)) := by
 refine fc_momF (by simp +arith) ?_
 unfold C_momF
 simp (maxSteps := 1000000) (disch := omega) only [go_sem]
 refine CALL_det (spanFault1_fc _ _ _) (.inl rfl) ?_
 simp (maxSteps := 1000000) (disch := omega) only [go_sem]
theorem ractF_fc (x : Opr) (h1 : x.b.size ≤ 1000) (h2 : x.al.size ≤ 1000) (h3 : I64 (x.at_ + 1)) : FC Tryz.prog 77 none [.ag (oprS x)] (fun _ r => r = iv (opF x)) := by
 refine fc_ractF (by simp +arith) ?_
 unfold I64 at h3
 unfold C_ractF
 have hb := rkey_fc x.b (by omega)
 have ha := rkey_fc x.al (by omega)
 simp only [oprS_eq]
 simp (maxSteps := 1000000) (disch := omega) only [go_sem]
 refine CALL_det hb (.inl rfl) ?_
 unfold opF
 cases c1 : keyOk x.b with
 | false => rw [if_pos rfl]; simp (maxSteps := 1000000) (disch := omega) only [go_sem]
 | true =>
 rw [if_neg (show ¬(true = false) by simp)]
 simp (maxSteps := 1000000) (disch := omega) only [go_sem]
 refine CALL_det (rin1_fc _ _ _) (.inl rfl) ?_
 by_cases c2 : x.no < 1 ∨ x.no > 2000
 ·rw [if_pos (.inl c2), decide_eq_false (show ¬(1 ≤ x.no ∧ x.no ≤ 2000) by omega)]
  simp (maxSteps := 1000000) (disch := omega) only [go_sem]
 rw [decide_eq_true (show 1 ≤ x.no ∧ x.no ≤ 2000 by omega)]
 simp (maxSteps := 1000000) (disch := omega) only [go_sem]
 refine CALL_det (momF_fc _) (.inl rfl) ?_
 by_cases c3 : x.at_ < 0 ∨ x.at_ ≥ 345686400000
 ·rw [if_neg (show ¬(0 ≤ x.at_ ∧ x.at_ ≤ 345686399999) by omega), if_pos (.inr c3)]
  simp (maxSteps := 1000000) (disch := omega) only [go_sem]
 rw [if_pos (show 0 ≤ x.at_ ∧ x.at_ ≤ 345686399999 by omega), if_neg (show ¬((x.no < 1 ∨ x.no > 2000) ∨ (x.at_ < 0 ∨ x.at_ ≥ 345686400000)) by omega)]
 simp (maxSteps := 1000000) (disch := omega) only [go_sem]
 refine CALL_det (rin1_fc _ _ _) (.inl rfl) ?_
 by_cases c4 : x.kd < 1 ∨ x.kd > 3
 ·rw [if_pos c4, decide_eq_false (show ¬(1 ≤ x.kd ∧ x.kd ≤ 3) by omega)]
  simp (maxSteps := 1000000) (disch := omega) only [go_sem]
 rw [if_neg c4, decide_eq_true (show 1 ≤ x.kd ∧ x.kd ≤ 3 by omega)]
 simp (maxSteps := 1000000) (disch := omega) only [go_sem]
 refine CALL_det ha (.inl rfl) ?_
 cases c5 : keyOk x.al with
 | false => rw [if_pos rfl]; simp (maxSteps := 1000000) (disch := omega) only [go_sem]
 | true =>
 rw [if_neg (show ¬(true = false) by simp)]
 by_cases c6 : x.kd = 2
 ·simp (maxSteps := 1000000) (disch := omega) only [go_sem]
  refine CALL_det (rin1_fc _ _ _) (.inl rfl) ?_
  by_cases c7 : x.un ≤ x.at_ ∨ x.un > 345686400000
  ·rw [if_pos ⟨c6, c7⟩, decide_eq_false (show ¬(x.at_ + 1 ≤ x.un ∧ x.un ≤ 345686400000) by omega)]
   simp (maxSteps := 1000000) (disch := omega) only [go_sem]
  ·rw [if_neg (fun h => c7 h.2), if_neg (fun h => h.1 c6), decide_eq_true (show x.at_ + 1 ≤ x.un ∧ x.un ≤ 345686400000 by omega)]
   simp (maxSteps := 1000000) (disch := omega) only [go_sem]
 ·rw [if_neg (fun h => c6 h.1)]
  by_cases c8 : x.un = 0
  ·rw [if_neg (fun h => h.2 c8)]
   simp (maxSteps := 1000000) (disch := omega) only [go_sem]
  ·rw [if_pos ⟨c6, c8⟩]
   simp (maxSteps := 1000000) (disch := omega) only [go_sem]
theorem actF_fc (x : Opr) (h1 : x.b.size ≤ 1000) (h2 : x.al.size ≤ 1000) : FC Tryz.prog 86 none [.ag (oprS x)] (fun _ r => r = iv (opF x)) := by
 refine fc_actF (by simp +arith) ?_
 unfold C_actF
 have hb := key_fc x.b (by omega)
 have ha := key_fc x.al (by omega)
 simp only [oprS_eq]
 simp (maxSteps := 1000000) (disch := omega) only [go_sem]
 refine CALL_det hb (.inl rfl) ?_
 unfold opF
 cases c1 : keyOk x.b with
 | false => rw [if_pos rfl]; simp (maxSteps := 1000000) (disch := omega) only [go_sem]
 | true =>
 rw [if_neg (show ¬(true = false) by simp)]
 simp (maxSteps := 1000000) (disch := omega) only [go_sem]
 refine CALL_det (out_fc _ _ _) (.inl rfl) ?_
 by_cases c2 : x.no < 1 ∨ x.no > 2000
 ·rw [if_pos (.inl c2), decide_eq_true c2]
  simp (maxSteps := 1000000) (disch := omega) only [go_sem]
 rw [decide_eq_false c2]
 simp (maxSteps := 1000000) (disch := omega) only [go_sem]
 refine CALL_det (moment_fc _) (.inl rfl) ?_
 by_cases c3 : x.at_ < 0 ∨ x.at_ ≥ 345686400000
 ·rw [if_pos (.inr c3), decide_eq_false (show ¬(0 ≤ x.at_ ∧ x.at_ ≤ 345686399999) by omega)]
  simp (maxSteps := 1000000) (disch := omega) only [go_sem]
 rw [if_neg (show ¬((x.no < 1 ∨ x.no > 2000) ∨ (x.at_ < 0 ∨ x.at_ ≥ 345686400000)) by omega), decide_eq_true (show 0 ≤ x.at_ ∧ x.at_ ≤ 345686399999 by omega)]
 simp (maxSteps := 1000000) (disch := omega) only [go_sem]
 refine CALL_det (out_fc _ _ _) (.inl rfl) ?_
 by_cases c4 : x.kd < 1 ∨ x.kd > 3
 ·rw [if_pos c4, decide_eq_true c4]
  simp (maxSteps := 1000000) (disch := omega) only [go_sem]
 rw [if_neg c4, decide_eq_false c4]
 simp (maxSteps := 1000000) (disch := omega) only [go_sem]
 refine CALL_det ha (.inl rfl) ?_
 cases c5 : keyOk x.al with
 | false => rw [if_pos rfl]; simp (maxSteps := 1000000) (disch := omega) only [go_sem]
 | true =>
 rw [if_neg (show ¬(true = false) by simp)]
 by_cases c6 : x.kd = 2
 ·by_cases c7 : x.un ≤ x.at_ ∨ x.un > 345686400000
  ·rw [if_pos ⟨c6, c7⟩]
   by_cases c8 : x.un ≤ x.at_
   ·simp (maxSteps := 1000000) (disch := omega) only [go_sem]
   ·simp (maxSteps := 1000000) (disch := omega) only [go_sem]
  ·rw [if_neg (fun h => c7 h.2), if_neg (fun h => h.1 c6)]
   simp (maxSteps := 1000000) (disch := omega) only [go_sem]
 ·rw [if_neg (fun h => c6 h.1)]
  by_cases c8 : x.un = 0
  ·rw [if_neg (fun h => h.2 c8)]
   simp (maxSteps := 1000000) (disch := omega) only [go_sem]
  ·rw [if_pos ⟨c6, c8⟩]
   simp (maxSteps := 1000000) (disch := omega) only [go_sem]
theorem rbyAct_fc (x y : Opr) : FC Tryz.prog 78 none [.ag (oprS x), .ag (oprS y)] (fun _ r => r = iv (cmpO x y)) := by
 refine fc_rbyAct (by simp +arith) ?_
 unfold C_rbyAct
 have ho := orI_fc [cmpS x.b y.b, sd y.no x.no] (by simp)
 rw [cmpO_or] at ho
 generalize cmpO x y = e at *
 simp only [oprS_eq]
 simp (maxSteps := 1000000) (disch := omega) only [go_sem]
 refine CALL_det (cmpS_fc _ _) (.inl rfl) ?_
 simp (maxSteps := 1000000) (disch := omega) only [go_sem]
 refine CALL_det (cmpInt_fc _ _) (.inl rfl) ?_
 simp (maxSteps := 1000000) (disch := omega) only [go_sem]
 refine CALL_det ho (.inl rfl) ?_
 simp (maxSteps := 1000000) (disch := omega) only [go_sem]
theorem byOp_fc (x y : Opr) : FC Tryz.prog 87 none [.ag (oprS x), .ag (oprS y)] (fun _ r => r = iv (cmpO x y)) := by
 refine fc_byOp (by simp +arith) ?_
 unfold C_byOp
 have ho := orI_fc [cmpS x.b y.b, sd y.no x.no] (by simp)
 rw [cmpO_or] at ho
 generalize cmpO x y = e at *
 simp only [oprS_eq]
 simp (maxSteps := 1000000) (disch := omega) only [go_sem]
 refine CALL_det (cmpS_fc _ _) (.inl rfl) ?_
 simp (maxSteps := 1000000) (disch := omega) only [go_sem]
 refine CALL_det (cmpInt_fc _ _) (.inl rfl) ?_
 simp (maxSteps := 1000000) (disch := omega) only [go_sem]
 refine CALL_det ho (.inl rfl) ?_
 simp (maxSteps := 1000000) (disch := omega) only [go_sem]
def prvO (l : List Opr) (i : Nat) : Option Opr := if i = 0 then none else some (l.getD (i - 1) default)
theorem prvO_succ (l : List Opr) (i : Nat) : prvO l (i + 1) = some (l.getD i default) := rfl
theorem prvO_pos {l : List Opr} {i : Int} (h : 0 < i) : prvO l i.toNat = some (l.getD (i - 1).toNat default) := by
 unfold prvO; rw [if_neg (by omega), show i.toNat - 1 = (i - 1).toNat by omega]
def of1St (l : List Opr) (late : Bool) (i : Int) : AS := ⟨tabV [(0, oprs false l), (3, bv late), (10, oprs false l), (11, iv l.length), (12, iv i)], tabO [], tabO []⟩
def Opr.sm (x : Opr) : Prop := x.b.size ≤ 1000 ∧ x.al.size ≤ 1000 ∧ I64 (x.at_ + 1)
set_option maxHeartbeats 12000000 in
theorem ractsF_fc (l : List Opr) (hl : l.length ≤ 1000000) (hsm : ∀ x ∈ l, x.sm) : FC Tryz.prog 13 none [oprs false l] (fun _ r => r = iv (ofF l)) := by
 refine fc_ractsF (by simp +arith) ?_
 unfold C_ractsF ofF
 by_cases c0 : l.length > 2000
 ·rw [if_pos c0]
  simp (maxSteps := 1000000) (disch := omega) only [go_sem]
 rw [if_neg c0]
 simp (maxSteps := 1000000) (disch := omega) only [go_sem]
 refine ex_loop2 (fun (late : Bool) i => of1St l late i) (fun late i => 0 ≤ i ∧ i ≤ l.length ∧ ofGo (prvO l i.toNat) (l.drop i.toNat) = ofGo none l ∧ (late || ltGo (prvO l i.toNat) (l.drop i.toNat)) = ltGo none l) (fun _ i => (l.length - i).toNat) false 0 ⟨by omega, by omega, rfl, rfl⟩ rfl ?_
 rintro late i ⟨g1, g2, g3, g4⟩
 unfold of1St
 by_cases hi : i < l.length
 ·have e2 : (i + 1).toNat = i.toNat + 1 := by omega
  have em := getD_map_at oprS l i [] g1 hi
  have hm := hsm _ (getD_mem l i.toNat (by omega))
  unfold Opr.sm at hm
  rw [drop_cons l i.toNat (by omega), ofGo, ← e2] at g3
  rw [drop_cons l i.toNat (by omega), ltGo, ← e2] at g4
  have hc := ractF_fc (l.getD i.toNat default) hm.1 hm.2.1 hm.2.2
  rw [oprS_eq] at hc
  by_cases c1 : opF (l.getD i.toNat default) ≠ 0
  ·rw [if_pos c1] at g3
   rw [← g3, if_pos c1]
   simp (maxSteps := 1000000) (disch := (first | omega | assumption)) only [go_sem]
   refine CALL_det hc (.inl rfl) ?_
   simp (maxSteps := 1000000) (disch := (first | omega | assumption)) only [go_sem]
  ·rw [if_neg c1] at g3
   by_cases hi0 : 0 < i
   ·have ep := getD_map_at oprS l (i - 1) [] (by omega) (by omega)
    rw [prvO_pos hi0] at g3 g4
    have ho := rbyAct_fc (l.getD (i - 1).toNat default) (l.getD i.toNat default)
    rw [oprS_eq, oprS_eq] at ho
    by_cases c2 : 0 ≤ cmpO (l.getD (i - 1).toNat default) (l.getD i.toNat default)
    ·rw [if_pos (show oBad (some (l.getD (i - 1).toNat default)) (l.getD i.toNat default) = true from decide_eq_true c2)] at g3
     rw [← g3, if_pos (by omega)]
     simp (maxSteps := 1000000) (disch := (first | omega | assumption)) only [go_sem]
     refine CALL_det hc (.inl rfl) ?_
     simp (maxSteps := 1000000) (disch := (first | omega | assumption)) only [go_sem]
     refine CALL_det ho (.inl rfl) ?_
     simp (maxSteps := 1000000) (disch := (first | omega | assumption)) only [go_sem]
    ·rw [if_neg (show ¬(oBad (some (l.getD (i - 1).toNat default)) (l.getD i.toNat default) = true) from fun h => c2 (of_decide_eq_true h))] at g3
     have el : oLate (some (l.getD (i - 1).toNat default)) (l.getD i.toNat default) = decide ((l.getD (i - 1).toNat default).b = (l.getD i.toNat default).b ∧ (l.getD i.toNat default).at_ < (l.getD (i - 1).toNat default).at_) := rfl
     rw [el] at g4
     cases late with
     | true =>
      simp (maxSteps := 1000000) (disch := (first | omega | assumption)) only [go_sem]
      refine CALL_det hc (.inl rfl) ?_
      simp (maxSteps := 1000000) (disch := (first | omega | assumption)) only [go_sem]
      refine CALL_det ho (.inl rfl) ?_
      simp (maxSteps := 1000000) (disch := (first | omega | assumption)) only [go_sem]
      exact ⟨true, i + 1, rfl, ⟨by omega, by omega, by rw [e2, prvO_succ, ← e2]; exact g3, by rw [Bool.true_or] at g4 ⊢; exact g4⟩, by omega⟩
     | false =>
      by_cases c3 : (l.getD (i - 1).toNat default).b = (l.getD i.toNat default).b
      ·by_cases c4 : (l.getD i.toNat default).at_ < (l.getD (i - 1).toNat default).at_
       ·rw [decide_eq_true (p := (l.getD (i - 1).toNat default).b = (l.getD i.toNat default).b ∧ (l.getD i.toNat default).at_ < (l.getD (i - 1).toNat default).at_) ⟨c3, c4⟩] at g4
        simp (maxSteps := 1000000) (disch := (first | omega | assumption)) only [go_sem]
        refine CALL_det hc (.inl rfl) ?_
        simp (maxSteps := 1000000) (disch := (first | omega | assumption)) only [go_sem]
        refine CALL_det ho (.inl rfl) ?_
        simp (maxSteps := 1000000) (disch := (first | omega | assumption)) only [go_sem]
        exact ⟨_, i + 1, rfl, ⟨by omega, by omega, by rw [e2, prvO_succ, ← e2]; exact g3, by rw [decide_eq_true c4, e2, prvO_succ, ← e2]; exact g4⟩, by omega⟩
       ·rw [decide_eq_false (p := (l.getD (i - 1).toNat default).b = (l.getD i.toNat default).b ∧ (l.getD i.toNat default).at_ < (l.getD (i - 1).toNat default).at_) (fun h => c4 h.2)] at g4
        simp (maxSteps := 1000000) (disch := (first | omega | assumption)) only [go_sem]
        refine CALL_det hc (.inl rfl) ?_
        simp (maxSteps := 1000000) (disch := (first | omega | assumption)) only [go_sem]
        refine CALL_det ho (.inl rfl) ?_
        simp (maxSteps := 1000000) (disch := (first | omega | assumption)) only [go_sem]
        exact ⟨_, i + 1, rfl, ⟨by omega, by omega, by rw [e2, prvO_succ, ← e2]; exact g3, by rw [decide_eq_false c4, e2, prvO_succ, ← e2]; exact g4⟩, by omega⟩
      ·rw [decide_eq_false (p := (l.getD (i - 1).toNat default).b = (l.getD i.toNat default).b ∧ (l.getD i.toNat default).at_ < (l.getD (i - 1).toNat default).at_) (fun h => c3 h.1)] at g4
       simp (maxSteps := 1000000) (disch := (first | omega | assumption)) only [go_sem]
       refine CALL_det hc (.inl rfl) ?_
       simp (maxSteps := 1000000) (disch := (first | omega | assumption)) only [go_sem]
       refine CALL_det ho (.inl rfl) ?_
       simp (maxSteps := 1000000) (disch := (first | omega | assumption)) only [go_sem]
       exact ⟨false, i + 1, rfl, ⟨by omega, by omega, by rw [e2, prvO_succ, ← e2]; exact g3, by rw [e2, prvO_succ, ← e2]; exact g4⟩, by omega⟩
   ·have e0 : i = 0 := by omega
    subst e0
    rw [show prvO l (Int.toNat 0) = none from rfl] at g3 g4
    rw [if_neg (by simp [oBad])] at g3
    rw [show oLate none (l.getD (Int.toNat 0) default) = false from rfl, Bool.false_or] at g4
    simp (maxSteps := 1000000) (disch := (first | omega | assumption)) only [go_sem]
    refine CALL_det hc (.inl rfl) ?_
    simp (maxSteps := 1000000) (disch := (first | omega | assumption)) only [go_sem]
    exact ⟨late, 1, rfl, ⟨by omega, by omega, g3, g4⟩, by omega⟩
 ·rw [List.drop_eq_nil_of_le (by omega), ofGo] at g3
  rw [List.drop_eq_nil_of_le (by omega), ltGo, Bool.or_false] at g4
  rw [if_neg (show ¬(ofGo none l ≠ 0) by omega), ← g4]
  cases late with
  | true => simp (maxSteps := 1000000) (disch := omega) only [go_sem]
  | false => simp (maxSteps := 1000000) (disch := omega) only [go_sem]
end Go.Proofs.YtfgkpbkphmeigaaGreatDoor
namespace Go.Proofs.YtfgkpbkphmeigaaGreatDoor
open Go Go.Ai
set_option linter.unusedSimpArgs false
set_option linter.unusedVariables false
set_option maxHeartbeats 4000000
def C_checkActs : AC := (.seq (.reg false [gI 2 (.mv (oI 0))] (kP [0] [] []))
 (.seq (.seq (.reg false [gM 9 0,gI 10 (.len (.t 9)),gI 11 (.bin .gtr (.t 10) (oI 2000))] (kP [0,11] [] []))
 (.cond (.t 11)
 (.seq (.reg false [gI 2 (.mv (oI 2))] (kP [2] [] []))
 .ret)
 .skip))
 (.seq (.seq (.reg false [gM 12 0,gI 13 (.len (.t 12)),gI 14 (.mv (oI 0))] (kP [0,12,13,14] [] []))
 (.block 0 (.loop (.seq (.reg false [gI 15 (.bin .lss (.t 14) (.t 13))] (kP [0,12,13,14,15] [] []))
 (.seq (.cond (.t 15)
 .skip
 (.exit 0))
 (.seq (.block 1 (.seq (.reg false [gM 16 14,gI 17 (.iadr 6 (.t 12) (.t 14)),gI 18 (.load true 6 (.t 17)),gI 4 (.alloc [(.string (ByteArray.mk #[])),(.int .i64 (0)),(.int .i64 (0)),(.int .i64 (0)),(.string (ByteArray.mk #[])),(.int .i64 (0))]),gM 3 16,gN (.store 6 (.t 4) (.t 18))] (kP [0,3,4,12,13,14] [4] []))
 (.seq (.seq (.reg false [gI 19 (.load true 6 (.t 4)),gI 20 (.call (.f 86) [(.t 19)]),gM 5 20] (kP [0,3,4,5,12,13,14] [4] []))
 (.seq (.reg false [gM 21 5,gI 22 (.bin .neq (.t 21) (oI 0))] (kP [0,3,4,5,12,13,14,22] [4] []))
 (.cond (.t 22)
 (.seq (.reg false [gM 23 5,gM 2 23] (kP [2] [] []))
 .ret)
 .skip)))
 (.seq (.seq (.reg false [gM 24 3,gI 25 (.bin .eql (.t 24) (oI 0))] (kP [0,3,4,12,13,14,25] [4] []))
 (.cond (.t 25)
 (.exit 1)
 .skip))
 (.seq (.reg false [gM 26 0,gM 27 3,gI 28 (.bin .sub (.t 27) (oI 1)),gI 29 (.iadr 6 (.t 26) (.t 28)),gI 30 (.load true 6 (.t 29)),gI 6 (.alloc [(.string (ByteArray.mk #[])),(.int .i64 (0)),(.int .i64 (0)),(.int .i64 (0)),(.string (ByteArray.mk #[])),(.int .i64 (0))]),gN (.store 6 (.t 6) (.t 30))] (kP [0,4,6,12,13,14] [4,6] []))
 (.seq (.reg false [gI 31 (.load true 6 (.t 4)),gI 32 (.load true 6 (.t 6)),gI 33 (.call (.f 87) [(.t 31),(.t 32)]),gI 34 (.bin .leq (.t 33) (oI 0))] (kP [0,12,13,14,34] [] []))
 (.cond (.t 34)
 (.seq (.reg false [gI 2 (.mv (oI 7))] (kP [2] [] []))
 .ret)
 .skip)))))))
 (.reg false [gI 35 (.bin .add (.t 14) (oI 1)),gM 14 35] (kP [0,12,13,14] [] []))))))))
 (.seq (.seq (.reg false [gM 36 0,gI 37 (.len (.t 36)),gI 38 (.mv (oI 0))] (kP [0,36,37,38] [] []))
 (.block 2 (.loop (.seq (.reg false [gI 39 (.bin .lss (.t 38) (.t 37))] (kP [0,36,37,38,39] [] []))
 (.seq (.cond (.t 39)
 .skip
 (.exit 2))
 (.seq (.block 3 (.seq (.reg false [gM 40 38,gI 41 (.iadr 6 (.t 36) (.t 38)),gI 42 (.load true 6 (.t 41)),gI 8 (.alloc [(.string (ByteArray.mk #[])),(.int .i64 (0)),(.int .i64 (0)),(.int .i64 (0)),(.string (ByteArray.mk #[])),(.int .i64 (0))]),gM 7 40,gN (.store 6 (.t 8) (.t 42))] (kP [0,7,8,36,37,38] [8] []))
 (.seq (.reg true [gM 43 7,gI 44 (.bin .gtr (.t 43) (oI 0)),gM 45 44,gG 46 45 true (.fadr 0 (.t 8)),gG 47 45 true (.load false 1 (.t 46)),gG 48 45 true (.mv (.t 0)),gG 49 45 true (.mv (.t 7)),gG 50 45 true (.bin .sub (.t 49) (oI 1)),gG 51 45 true (.iadr 6 (.t 48) (.t 50)),gG 52 45 true (.fadr 0 (.t 51)),gG 53 45 true (.load false 1 (.t 52)),gG 54 45 true (.bin .eql (.t 47) (.t 53)),gI 55 (.pick (.t 45) (.t 54) (.v (.bool false))),gM 56 55,gG 57 56 true (.fadr 2 (.t 8)),gG 58 56 true (.load false 1 (.t 57)),gG 59 56 true (.mv (.t 0)),gG 60 56 true (.mv (.t 7)),gG 61 56 true (.bin .sub (.t 60) (oI 1)),gG 62 56 true (.iadr 6 (.t 59) (.t 61)),gG 63 56 true (.fadr 2 (.t 62)),gG 64 56 true (.load false 1 (.t 63)),gG 65 56 true (.bin .lss (.t 58) (.t 64)),gI 66 (.pick (.t 56) (.t 65) (.v (.bool false)))] (kP [0,36,37,38,66] [] []))
 (.cond (.t 66)
 (.seq (.reg false [gI 2 (.mv (oI 7))] (kP [2] [] []))
 .ret)
 .skip))))
 (.reg false [gI 67 (.bin .add (.t 38) (oI 1)),gM 38 67] (kP [0,36,37,38] [] []))))))))
 (.seq (.reg false [gI 2 (.mv (oI 0))] (kP [2] [] []))
 .ret)))))
theorem fc_checkActs : FcT Tryz.prog 17 Tryz.f17 C_checkActs [.t 2] := fc_mk [aN [0] [] [],aN [0,11] [] [],aN [2] [] [],aN [0,12,13,14] [] [],aN [0,12,13,14,15] [] [],aN [0,3,4,12,13,14] [4] [],aN [0,3,4,5,12,13,14] [4] [],aN [0,3,4,5,12,13,14,22] [4] [],aN [2] [] [],aN [0,3,4,12,13,14,25] [4] [],aN [0,4,6,12,13,14] [4,6] [],aN [0,12,13,14,34] [] [],aN [2] [] [],aN [0,12,13,14] [] [],aN [0,36,37,38] [] [],aN [0,36,37,38,39] [] [],aN [0,7,8,36,37,38] [8] [],aN [0,36,37,38,66] [] [],aN [2] [] [],aN [0,36,37,38] [] [],aN [2] [] []] Tryz.func17 (by kernel_rfl)
structure ActOk (a : List Opr) : Prop where
 len : a.length ≤ 2000
 flt : ∀ i, i < a.length → opF (a.getD i default) = 0
 up : ∀ i, i + 1 < a.length → cmpO (a.getD i default) (a.getD (i + 1) default) < 0
 tm : ∀ i, i + 1 < a.length → ¬((a.getD i default).b = (a.getD (i + 1) default).b ∧ (a.getD (i + 1) default).at_ < (a.getD i default).at_)
theorem ofGo_ok : ∀ (l : List Opr) (pv : Option Opr), ofGo pv l = 0 → (∀ i, i < l.length → opF (l.getD i default) = 0) ∧ (∀ i, i + 1 < l.length → cmpO (l.getD i default) (l.getD (i + 1) default) < 0) ∧ (∀ q, pv = some q → 0 < l.length → cmpO q (l.getD 0 default) < 0)
 | [], pv, _ => ⟨fun i h => by simp at h, fun i h => by simp at h, fun q _ h => by simp at h⟩
 | x :: r, pv, h => by
  rw [ofGo] at h
  by_cases c1 : opF x ≠ 0
  ·rw [if_pos c1] at h; exact absurd h c1
  ·rw [if_neg c1] at h
   by_cases c2 : oBad pv x = true
   ·rw [if_pos c2] at h; omega
   ·rw [if_neg c2] at h
    obtain ⟨h1, h2, h3⟩ := ofGo_ok r (some x) h
    refine ⟨fun i hi => ?_, fun i hi => ?_, fun q hq _ => ?_⟩
    ·cases i with
     | zero => simpa using c1
     | succ i => simpa using h1 i (by simpa using hi)
    ·cases i with
     | zero => simpa using h3 x rfl (by simpa using hi)
     | succ i => simpa using h2 i (by simpa using hi)
    ·subst hq
     simpa [oBad] using c2
theorem ltGo_ok : ∀ (l : List Opr) (pv : Option Opr), ltGo pv l = false → (∀ i, i + 1 < l.length → ¬((l.getD i default).b = (l.getD (i + 1) default).b ∧ (l.getD (i + 1) default).at_ < (l.getD i default).at_)) ∧ (∀ q, pv = some q → 0 < l.length → ¬(q.b = (l.getD 0 default).b ∧ (l.getD 0 default).at_ < q.at_))
 | [], pv, _ => ⟨fun i h => by simp at h, fun q _ h => by simp at h⟩
 | x :: r, pv, h => by
  rw [ltGo, Bool.or_eq_false_iff] at h
  obtain ⟨h1, h2⟩ := ltGo_ok r (some x) h.2
  refine ⟨fun i hi => ?_, fun q hq _ => ?_⟩
  ·cases i with
   | zero => simpa using h2 x rfl (by simpa using hi)
   | succ i => simpa using h1 i (by simpa using hi)
  ·subst hq
   have := of_decide_eq_false h.1
   simpa using this
theorem actOk_of {a : List Opr} (h : ofF a = 0) : ActOk a := by
 unfold ofF at h
 by_cases c1 : a.length > 2000
 ·rw [if_pos c1] at h; omega
 rw [if_neg c1] at h
 by_cases c2 : ofGo none a ≠ 0
 ·rw [if_pos c2] at h; exact absurd h c2
 rw [if_neg c2] at h
 by_cases c3 : ltGo none a = true
 ·rw [if_pos c3] at h; omega
 obtain ⟨h1, h2, _⟩ := ofGo_ok a none (by omega)
 obtain ⟨h3, _⟩ := ltGo_ok a none (by simpa using c3)
 exact ⟨by omega, h1, h2, h3⟩
def ck1St (l : List Opr) (i : Int) : AS := ⟨tabV [(0, oprs false l), (12, oprs false l), (13, iv l.length), (14, iv i)], tabO [], tabO []⟩
def ck2St (l : List Opr) (i : Int) : AS := ⟨tabV [(0, oprs false l), (36, oprs false l), (37, iv l.length), (38, iv i)], tabO [], tabO []⟩
theorem prvO_zero (l : List Opr) : prvO l (Int.toNat 0) = none := rfl
set_option maxHeartbeats 12000000 in
theorem checkActsG_fc (l : List Opr) (hl : l.length ≤ 1000000) (hsm : ∀ x ∈ l, x.sm) : FC Tryz.prog 17 none [oprs false l] (fun _ r => r = iv (ofF l)) := by
 refine fc_checkActs (by simp +arith) ?_
 unfold C_checkActs ofF
 by_cases c0 : l.length > 2000
 ·rw [if_pos c0]
  simp (maxSteps := 1000000) (disch := omega) only [go_sem]
 rw [if_neg c0]
 simp (maxSteps := 1000000) (disch := omega) only [go_sem]
 refine ex_loop1 (ck1St l) (fun i => 0 ≤ i ∧ i ≤ l.length ∧ ofGo (prvO l i.toNat) (l.drop i.toNat) = ofGo none l) (fun i => (l.length - i).toNat) 0 ⟨by omega, by omega, rfl⟩ rfl ?_
 rintro i ⟨g1, g2, g3⟩
 unfold ck1St
 by_cases hi : i < l.length
 ·have em := getD_map_at oprS l i [] g1 hi
  have e2 : (i + 1).toNat = i.toNat + 1 := by omega
  have hm := hsm _ (getD_mem l i.toNat (by omega))
  unfold Opr.sm at hm
  rw [drop_cons l i.toNat (by omega), ofGo, ← e2] at g3
  have hc := actF_fc (l.getD i.toNat default) hm.1 hm.2.1
  rw [oprS_eq] at hc
  by_cases c1 : opF (l.getD i.toNat default) ≠ 0
  ·rw [if_pos c1] at g3
   rw [← g3, if_pos c1]
   simp (maxSteps := 1000000) (disch := (first | omega | assumption)) only [go_sem]
   refine CALL_det hc (.inl rfl) ?_
   simp (maxSteps := 1000000) (disch := (first | omega | assumption)) only [go_sem]
  ·rw [if_neg c1] at g3
   by_cases hi0 : 0 < i
   ·have ep := getD_map_at oprS l (i - 1) [] (by omega) (by omega)
    have ho := byOp_fc (l.getD i.toNat default) (l.getD (i - 1).toNat default)
    rw [prvO_pos hi0] at g3
    have han := cmpO_anti (l.getD i.toNat default) (l.getD (i - 1).toNat default)
    have hob : oBad (some (l.getD (i - 1).toNat default)) (l.getD i.toNat default) = decide (0 ≤ cmpO (l.getD (i - 1).toNat default) (l.getD i.toNat default)) := rfl
    rw [hob] at g3
    rw [oprS_eq, oprS_eq] at ho
    generalize cmpO (l.getD (i - 1).toNat default) (l.getD i.toNat default) = e' at *
    generalize cmpO (l.getD i.toNat default) (l.getD (i - 1).toNat default) = e at *
    by_cases c2 : 0 ≤ e'
    ·rw [if_pos (decide_eq_true c2)] at g3
     rw [← g3, if_pos (by omega)]
     simp (maxSteps := 1000000) (disch := (first | omega | assumption)) only [go_sem]
     refine CALL_det hc (.inl rfl) ?_
     simp (maxSteps := 1000000) (disch := (first | omega | assumption)) only [go_sem]
     refine CALL_det ho (.inl rfl) ?_
     simp (maxSteps := 1000000) (disch := (first | omega | assumption)) only [go_sem]
    ·rw [if_neg (by simpa using c2)] at g3
     simp (maxSteps := 1000000) (disch := (first | omega | assumption)) only [go_sem]
     refine CALL_det hc (.inl rfl) ?_
     simp (maxSteps := 1000000) (disch := (first | omega | assumption)) only [go_sem]
     refine CALL_det ho (.inl rfl) ?_
     simp (maxSteps := 1000000) (disch := (first | omega | assumption)) only [go_sem]
     exact ⟨i + 1, rfl, ⟨by omega, by omega, by rw [e2, prvO_succ, ← e2]; exact g3⟩, by omega⟩
   ·have e0 : i = 0 := by omega
    subst e0
    rw [prvO_zero, if_neg (by simp [oBad])] at g3
    simp (maxSteps := 1000000) (disch := (first | omega | assumption)) only [go_sem]
    refine CALL_det hc (.inl rfl) ?_
    simp (maxSteps := 1000000) (disch := (first | omega | assumption)) only [go_sem]
    exact ⟨1, rfl, ⟨by omega, by omega, g3⟩, by omega⟩
 ·rw [List.drop_eq_nil_of_le (by omega), ofGo] at g3
  rw [if_neg (show ¬(ofGo none l ≠ 0) by omega)]
  simp (maxSteps := 1000000) (disch := omega) only [go_sem]
  refine ex_loop1 (ck2St l) (fun i => 0 ≤ i ∧ i ≤ l.length ∧ ltGo (prvO l i.toNat) (l.drop i.toNat) = ltGo none l) (fun i => (l.length - i).toNat) 0 ⟨by omega, by omega, rfl⟩ rfl ?_
  rintro i ⟨g1, g2, g3⟩
  unfold ck2St
  by_cases hi : i < l.length
  ·have em := getD_map_at oprS l i [] g1 hi
   have e2 : (i + 1).toNat = i.toNat + 1 := by omega
   rw [drop_cons l i.toNat (by omega), ltGo, ← e2] at g3
   by_cases hi0 : 0 < i
   ·have ep := getD_map_at oprS l (i - 1) [] (by omega) (by omega)
    rw [prvO_pos hi0] at g3
    have el : oLate (some (l.getD (i - 1).toNat default)) (l.getD i.toNat default) = decide ((l.getD (i - 1).toNat default).b = (l.getD i.toNat default).b ∧ (l.getD i.toNat default).at_ < (l.getD (i - 1).toNat default).at_) := rfl
    rw [el] at g3
    by_cases c1 : (l.getD i.toNat default).b = (l.getD (i - 1).toNat default).b
    ·by_cases c2 : (l.getD i.toNat default).at_ < (l.getD (i - 1).toNat default).at_
     ·rw [decide_eq_true (p := (l.getD (i - 1).toNat default).b = (l.getD i.toNat default).b ∧ (l.getD i.toNat default).at_ < (l.getD (i - 1).toNat default).at_) ⟨c1.symm, c2⟩, Bool.true_or] at g3
      rw [← g3, if_pos rfl]
      simp (maxSteps := 1000000) (disch := (first | omega | assumption)) only [go_sem]
     ·rw [decide_eq_false (p := (l.getD (i - 1).toNat default).b = (l.getD i.toNat default).b ∧ (l.getD i.toNat default).at_ < (l.getD (i - 1).toNat default).at_) (fun h => c2 h.2), Bool.false_or] at g3
      simp (maxSteps := 1000000) (disch := (first | omega | assumption)) only [go_sem]
      exact ⟨i + 1, rfl, ⟨by omega, by omega, by rw [e2, prvO_succ, ← e2]; exact g3⟩, by omega⟩
    ·rw [decide_eq_false (p := (l.getD (i - 1).toNat default).b = (l.getD i.toNat default).b ∧ (l.getD i.toNat default).at_ < (l.getD (i - 1).toNat default).at_) (fun h => c1 h.1.symm), Bool.false_or] at g3
     simp (maxSteps := 1000000) (disch := (first | omega | assumption)) only [go_sem]
     exact ⟨i + 1, rfl, ⟨by omega, by omega, by rw [e2, prvO_succ, ← e2]; exact g3⟩, by omega⟩
   ·have e0 : i = 0 := by omega
    subst e0
    rw [prvO_zero, show oLate none (l.getD (Int.toNat 0) default) = false from rfl, Bool.false_or] at g3
    simp (maxSteps := 1000000) (disch := (first | omega | assumption)) only [go_sem]
    exact ⟨1, rfl, ⟨by omega, by omega, g3⟩, by omega⟩
  ·rw [List.drop_eq_nil_of_le (by omega), ltGo] at g3
   rw [← g3, if_neg (by simp)]
   simp (maxSteps := 1000000) (disch := omega) only [go_sem]
end Go.Proofs.YtfgkpbkphmeigaaGreatDoor

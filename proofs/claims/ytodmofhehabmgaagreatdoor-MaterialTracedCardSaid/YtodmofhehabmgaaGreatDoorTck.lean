/-
 What is wrong with transfers: the program's answer, for any transfers.
-/
import Derived.Test.YtodmofhehabmgaaGreatDoorTrp
namespace Go.Proofs.YtodmofhehabmgaaGreatDoor
open Go Go.Ai
set_option linter.unusedSimpArgs false
set_option linter.unusedVariables false
set_option maxHeartbeats 4000000
def C_orI : AC := (.seq (.reg false [gI 2 (.mv (oI 0))] (kP [0] [] []))
 (.seq (.reg false [gI 3 (.mv (oI 0))] (kP [0,3] [] []))
 (.seq (.seq (.reg false [gM 6 0,gI 7 (.len (.t 6)),gI 8 (.mv (oI 0))] (kP [3,6,7,8] [] []))
 (.block 0 (.loop (.seq (.reg false [gI 9 (.bin .lss (.t 8) (.t 7))] (kP [3,6,7,8,9] [] []))
 (.seq (.cond (.t 9)
 .skip
 (.exit 0))
 (.seq (.block 1 (.seq (.reg false [gI 10 (.iadr 1 (.t 6) (.t 8)),gI 11 (.load false 1 (.t 10)),gM 5 11] (kP [3,5,6,7,8] [] []))
 (.seq (.reg false [gM 12 5,gM 13 3,gI 14 (.bin .neq (.t 12) (.t 13))] (kP [3,5,6,7,8,14] [] []))
 (.cond (.t 14)
 (.seq (.reg false [gM 15 5,gM 2 15] (kP [2] [] []))
 .ret)
 .skip))))
 (.reg false [gI 16 (.bin .add (.t 8) (oI 1)),gM 8 16] (kP [3,6,7,8] [] []))))))))
 (.seq (.reg false [gM 17 3,gM 2 17] (kP [2] [] []))
 .ret))))
theorem fc_orI : FcT Tryz.prog 87 Tryz.f87 C_orI [.t 2] := fc_mk [aN [0] [] [],aN [0,3] [] [],aN [3,6,7,8] [] [],aN [3,6,7,8,9] [] [],aN [3,5,6,7,8] [] [],aN [3,5,6,7,8,14] [] [],aN [2] [] [],aN [3,6,7,8] [] [],aN [2] [] []] Tryz.func87 (by kernel_rfl)
def C_byN : AC := (.seq (.reg false [gI 2 (.box (.t 0)),gI 3 (.box (.t 1)),gI 4 (.mv (oI 0))] (kP [2,3] [2,3] []))
 (.seq (.reg true [gI 5 (.fadr 0 (.t 2)),gI 6 (.load false 1 (.t 5)),gI 7 (.fadr 0 (.t 3)),gI 8 (.load false 1 (.t 7)),gI 9 (.call (.f 88) [(.t 6),(.t 8)]),gI 10 (.fadr 1 (.t 2)),gI 11 (.load false 1 (.t 10)),gI 12 (.fadr 1 (.t 3)),gI 13 (.load false 1 (.t 12)),gI 14 (.call (.f 88) [(.t 11),(.t 13)]),gI 15 (.bslice 1 2 [(.t 9),(.t 14)]),gI 16 (.call (.f 87) [(.t 15)]),gM 4 16] (kP [4] [] []))
 .ret))
theorem fc_byN : FcT Tryz.prog 42 Tryz.f42 C_byN [.t 4] := fc_mk [aN [2,3] [2,3] [],aN [4] [] []] Tryz.func42 (by kernel_rfl)
def C_ckT : AC := (.seq (.reg false [gI 2 (.mv (oI 0))] (kP [0] [] []))
 (.seq (.seq (.reg false [gM 8 0,gI 9 (.len (.t 8)),gI 10 (.bin .gtr (.t 9) (oI 500))] (kP [0,10] [] []))
 (.cond (.t 10)
 (.seq (.reg false [gI 2 (.mv (oI 2))] (kP [2] [] []))
 .ret)
 .skip))
 (.seq (.seq (.reg false [gM 11 0,gI 12 (.len (.t 11)),gI 13 (.mv (oI 0))] (kP [0,11,12,13] [] []))
 (.block 0 (.loop (.seq (.reg false [gI 14 (.bin .lss (.t 13) (.t 12))] (kP [0,11,12,13,14] [] []))
 (.seq (.cond (.t 14)
 .skip
 (.exit 0))
 (.seq (.block 1 (.seq (.reg false [gM 15 13,gI 16 (.iadr 3 (.t 11) (.t 13)),gI 17 (.load true 3 (.t 16)),gI 4 (.alloc [(.string (ByteArray.mk #[])),(.string (ByteArray.mk #[])),(.int .i64 (0))]),gM 3 15,gN (.store 3 (.t 4) (.t 17))] (kP [0,3,4,11,12,13] [4] []))
 (.block 2 (.seq (.reg false [gI 19 (.fadr 0 (.t 4)),gI 20 (.load false 1 (.t 19)),gI 21 (.call (.f 40) [(.t 20)]),gI 22 (.un .not (.t 21)),gM 23 22,gG 24 23 false (.fadr 1 (.t 4)),gG 25 23 false (.load false 1 (.t 24)),gG 26 23 false (.call (.f 40) [(.t 25)]),gG 27 23 false (.un .not (.t 26)),gI 28 (.pick (.t 23) (.v (.bool true)) (.t 27)),gM 18 28] (kP [0,3,4,11,12,13,18] [4] []))
 (.cond (.t 18)
 (.seq (.reg false [gI 2 (.mv (oI 5))] (kP [2] [] []))
 .ret)
 (.seq (.reg false [gI 30 (.fadr 0 (.t 4)),gI 31 (.load false 1 (.t 30)),gI 32 (.fadr 1 (.t 4)),gI 33 (.load false 1 (.t 32)),gI 34 (.bin .eql (.t 31) (.t 33)),gM 29 34] (kP [0,3,4,11,12,13,29] [4] []))
 (.cond (.t 29)
 (.seq (.reg false [gI 2 (.mv (oI 3))] (kP [2] [] []))
 .ret)
 (.seq (.reg false [gI 36 (.fadr 2 (.t 4)),gI 37 (.load false 1 (.t 36)),gI 38 (.call (.f 41) [(.t 37),(oI 1),(oI 1000000)]),gM 35 38] (kP [0,3,4,11,12,13,35] [4] []))
 (.cond (.t 35)
 (.seq (.reg false [gI 2 (.mv (oI 1))] (kP [2] [] []))
 .ret)
 (.seq (.reg true [gM 40 3,gI 41 (.bin .gtr (.t 40) (oI 0)),gM 42 41,gG 43 42 true (.load true 3 (.t 4)),gG 44 42 true (.mv (.t 0)),gG 45 42 true (.mv (.t 3)),gG 46 42 true (.bin .sub (.t 45) (oI 1)),gG 47 42 true (.iadr 3 (.t 44) (.t 46)),gG 48 42 true (.load true 3 (.t 47)),gG 49 42 true (.call (.f 42) [(.t 43),(.t 48)]),gG 50 42 true (.bin .leq (.t 49) (oI 0)),gI 51 (.pick (.t 42) (.t 50) (.v (.bool false))),gM 39 51] (kP [0,11,12,13,39] [] []))
 (.cond (.t 39)
 (.seq (.reg false [gI 2 (.mv (oI 7))] (kP [2] [] []))
 .ret)
 .skip)))))))))))
 (.reg false [gI 52 (.bin .add (.t 13) (oI 1)),gM 13 52] (kP [0,11,12,13] [] []))))))))
 (.seq (.reg false [gM 53 0,gI 54 (.call (.f 43) [(.t 53)]),gM 5 54] (kP [0,5] [] []))
 (.seq (.seq (.reg false [gM 55 0,gI 56 (.len (.t 55)),gI 57 (.mv (oI 0))] (kP [5,55,56,57] [] []))
 (.block 3 (.loop (.seq (.reg false [gI 58 (.bin .lss (.t 57) (.t 56))] (kP [5,55,56,57,58] [] []))
 (.seq (.cond (.t 58)
 .skip
 (.exit 3))
 (.seq (.block 4 (.seq (.reg false [gI 59 (.iadr 3 (.t 55) (.t 57)),gI 60 (.load true 3 (.t 59)),gI 7 (.alloc [(.string (ByteArray.mk #[])),(.string (ByteArray.mk #[])),(.int .i64 (0))]),gN (.store 3 (.t 7) (.t 60))] (kP [5,7,55,56,57] [7] []))
 (.seq (.reg true [gM 61 5,gI 62 (.fadr 1 (.t 7)),gI 63 (.load false 1 (.t 62)),gI 64 (.call (.f 44) [(.t 61),(.t 63)]),gI 65 (.fadr 1 (.t 7)),gI 66 (.load false 1 (.t 65)),gI 67 (.mlk 0 (.bool false) false 0 (.t 64) (.t 66))] (kP [5,55,56,57,67] [] []))
 (.cond (.t 67)
 (.seq (.reg false [gI 2 (.mv (oI 14))] (kP [2] [] []))
 .ret)
 .skip))))
 (.reg false [gI 68 (.bin .add (.t 57) (oI 1)),gM 57 68] (kP [5,55,56,57] [] []))))))))
 (.seq (.reg false [gI 2 (.mv (oI 0))] (kP [2] [] []))
 .ret))))))
theorem fc_ckT : FcT Tryz.prog 10 Tryz.f10 C_ckT [.t 2] := fc_mk [aN [0] [] [],aN [0,10] [] [],aN [2] [] [],aN [0,11,12,13] [] [],aN [0,11,12,13,14] [] [],aN [0,3,4,11,12,13] [4] [],aN [0,3,4,11,12,13,18] [4] [],aN [2] [] [],aN [0,3,4,11,12,13,29] [4] [],aN [2] [] [],aN [0,3,4,11,12,13,35] [4] [],aN [2] [] [],aN [0,11,12,13,39] [] [],aN [2] [] [],aN [0,11,12,13] [] [],aN [0,5] [] [],aN [5,55,56,57] [] [],aN [5,55,56,57,58] [] [],aN [5,7,55,56,57] [7] [],aN [5,55,56,57,67] [] [],aN [2] [] [],aN [5,55,56,57] [] [],aN [2] [] []] Tryz.func10 (by kernel_rfl)
theorem mgetF_set (k : ByteArray) : ∀ S : List ByteArray, mgetF (.string k) (fmS S) = if k ∈ S then some (.g (.bool true)) else none
 | [] => rfl
 | s :: S => by
  have h0 : fmS (s :: S) = [.g (.string s), .g (.bool true)] :: fmS S := rfl
  rw [h0, mgetF, mgetF_set k S]
  have h1 : mkey (.string k) [Cel.g (.string s), .g (.bool true)] = (k == s) := rfl
  rw [h1]
  by_cases e : k = s
  ·subst e; simp [Cel.dat]
  ·rw [show (k == s) = false from Bool.eq_false_iff.2 fun h => e ((MapKept.bytes_beq _ _).1 h)]
   simp [e]
theorem getD_set (k : ByteArray) (S : List ByteArray) : (mgetF (.string k) (fmS S)).getD (.g (.bool false)) = .g (.bool (decide (k ∈ S))) := by
 rw [mgetF_set]; by_cases h : k ∈ S <;> simp [h]
attribute [go_sem] getD_set
def orISt (l : List Int) (i : Int) : AS := ⟨tabV [(3, iv 0), (6, ints false l), (7, iv l.length), (8, iv i)], tabO [], tabO []⟩
theorem orI_fc (l : List Int) (hl : l.length ≤ 4611686018427387904) : FC Tryz.prog 87 none [ints false l] (fun _ r => r = iv (orSp l)) := by
 refine fc_orI (by simp +arith) ?_
 unfold C_orI
 simp (maxSteps := 1000000) (disch := omega) only [go_sem]
 refine ex_loop1 (orISt l) (fun i => 0 ≤ i ∧ i ≤ l.length ∧ orSp (l.drop i.toNat) = orSp l) (fun i => (l.length - i).toNat) 0 ⟨by omega, by omega, rfl⟩ rfl ?_
 rintro i ⟨g1, g2, g3⟩
 unfold orISt
 by_cases hi : i < l.length
 ·rw [drop_cons l i.toNat (by omega), orSp] at g3
  have e2 : (i + 1).toNat = i.toNat + 1 := by omega
  by_cases h : l.getD i.toNat default ≠ 0
  ·rw [if_pos h] at g3
   rw [← g3]
   simp (maxSteps := 1000000) (disch := omega) only [go_sem]
  ·rw [if_neg h] at g3
   simp (maxSteps := 1000000) (disch := omega) only [go_sem]
   exact ⟨i + 1, rfl, ⟨by omega, by omega, by rw [e2]; exact g3⟩, by omega⟩
 ·rw [List.drop_eq_nil_of_le (by omega), orSp] at g3
  simp (maxSteps := 1000000) (disch := omega) only [go_sem]
  rw [← g3]
theorem cmpT_or (x y : Trf) : orSp [cmpS x.frm y.frm, cmpS x.to y.to] = cmpT x y := by
 unfold cmpT
 simp only [orSp]
 split
 ·rfl
 ·show (if cmpS x.to y.to ≠ 0 then cmpS x.to y.to else 0) = cmpS x.to y.to
  split
  ·rfl
  ·omega
theorem byN_fc (x y : Trf) : FC Tryz.prog 42 none [.ag (trC x), .ag (trC y)] (fun _ r => r = iv (cmpT x y)) := by
 refine fc_byN (by simp +arith) ?_
 unfold C_byN
 have ho := orI_fc [cmpS x.frm y.frm, cmpS x.to y.to] (by simp)
 rw [cmpT_or] at ho
 generalize cmpT x y = e at *
 simp only [trC_eq]
 simp (maxSteps := 1000000) (disch := omega) only [go_sem]
 refine CALL_det (cmpS_fc _ _) (.inl rfl) ?_
 simp (maxSteps := 1000000) (disch := omega) only [go_sem]
 refine CALL_det (cmpS_fc _ _) (.inl rfl) ?_
 simp (maxSteps := 1000000) (disch := omega) only [go_sem]
 refine CALL_det ho (.inl rfl) ?_
 simp (maxSteps := 1000000) (disch := omega) only [go_sem]
def prvT (l : List Trf) (i : Nat) : Option Trf := if i = 0 then none else some (l.getD (i - 1) default)
theorem prvT_succ (l : List Trf) (i : Nat) : prvT l (i + 1) = some (l.getD i default) := by unfold prvT; rw [if_neg (by omega)]; rfl
def ck1St (l : List Trf) (i : Int) : AS := ⟨tabV [(0, trs false l), (11, trs false l), (12, iv l.length), (13, iv i)], tabO [], tabO []⟩
def ck2St (l : List Trf) (i : Int) : AS := ⟨tabV [(5, .one (.fm 0 (fmG (grpAll l)))), (55, trs false l), (56, iv l.length), (57, iv i)], tabO [], tabO []⟩
set_option maxHeartbeats 12000000 in
theorem ckT_fc (l : List Trf) (hl0 : l.length ≤ 1000000) (hsm : ∀ x ∈ l, x.frm.size ≤ 1000000 ∧ x.to.size ≤ 1000000) : FC Tryz.prog 10 none [trs false l] (fun _ r => r = iv (ctF l)) := by
 refine fc_ckT (by simp +arith) ?_
 unfold C_ckT ctF
 by_cases hl : l.length > 500
 ·rw [if_pos hl]
  simp (maxSteps := 1000000) (disch := (first | omega | assumption)) only [go_sem]
 rw [if_neg hl]
 simp (maxSteps := 1000000) (disch := (first | omega | assumption)) only [go_sem]
 refine ex_loop1 (ck1St l) (fun i => 0 ≤ i ∧ i ≤ l.length ∧ tgGo (prvT l i.toNat) (l.drop i.toNat) = tgGo none l) (fun i => (l.length - i).toNat) 0 ⟨by omega, by omega, rfl⟩ rfl ?_
 rintro i ⟨g1, g2, g3⟩
 unfold ck1St
 by_cases hi : i < l.length
 ·have e2 : (i + 1).toNat = i.toNat + 1 := by omega
  have em := getD_map_at trC l i [] g1 hi
  have hm := hsm _ (getD_mem l i.toNat (by omega))
  rw [drop_cons l i.toNat (by omega), tgGo, ← e2] at g3
  have hk1 := key_fc (l.getD i.toNat default).frm (by omega)
  have hk2 := key_fc (l.getD i.toNat default).to (by omega)
  have ho := out_fc (l.getD i.toNat default).amt 1 1000000
  unfold tfl at g3
  cases c1 : keyOk (l.getD i.toNat default).frm with
  | false =>
   rw [c1] at hk1 g3
   rw [Bool.false_and, if_pos rfl, if_pos (by omega)] at g3
   rw [← g3, if_pos (by omega)]
   simp (maxSteps := 1000000) (disch := (first | omega | assumption)) only [go_sem]
   refine CALL_det hk1 (.inl rfl) ?_
   simp (maxSteps := 1000000) (disch := (first | omega | assumption)) only [go_sem]
  | true =>
  cases c2 : keyOk (l.getD i.toNat default).to with
  | false =>
   rw [c1] at hk1 g3
   rw [c2] at hk2 g3
   rw [Bool.and_false, if_pos rfl, if_pos (by omega)] at g3
   rw [← g3, if_pos (by omega)]
   simp (maxSteps := 1000000) (disch := (first | omega | assumption)) only [go_sem]
   refine CALL_det hk1 (.inl rfl) ?_
   simp (maxSteps := 1000000) (disch := (first | omega | assumption)) only [go_sem]
   refine CALL_det hk2 (.inl rfl) ?_
   simp (maxSteps := 1000000) (disch := (first | omega | assumption)) only [go_sem]
  | true =>
  rw [c1] at hk1 g3
  rw [c2] at hk2 g3
  rw [Bool.and_true, if_neg (show ¬(true = false) by simp)] at g3
  by_cases c3 : (l.getD i.toNat default).frm = (l.getD i.toNat default).to
  ·rw [if_pos c3, if_pos (by omega)] at g3
   rw [← g3, if_pos (by omega)]
   simp (maxSteps := 1000000) (disch := (first | omega | assumption)) only [go_sem]
   refine CALL_det hk1 (.inl rfl) ?_
   simp (maxSteps := 1000000) (disch := (first | omega | assumption)) only [go_sem]
   refine CALL_det hk2 (.inl rfl) ?_
   simp (maxSteps := 1000000) (disch := (first | omega | assumption)) only [go_sem]
  rw [if_neg c3] at g3
  by_cases c4 : (l.getD i.toNat default).amt < 1 ∨ 1000000 < (l.getD i.toNat default).amt
  ·rw [if_pos c4, if_pos (by omega)] at g3
   rw [← g3, if_pos (by omega)]
   have c4' : (l.getD i.toNat default).amt < 1 ∨ (l.getD i.toNat default).amt > 1000000 := by omega
   rw [decide_eq_true c4'] at ho
   simp (maxSteps := 1000000) (disch := (first | omega | assumption)) only [go_sem]
   refine CALL_det hk1 (.inl rfl) ?_
   simp (maxSteps := 1000000) (disch := (first | omega | assumption)) only [go_sem]
   refine CALL_det hk2 (.inl rfl) ?_
   simp (maxSteps := 1000000) (disch := (first | omega | assumption)) only [go_sem]
   refine CALL_det ho (.inl rfl) ?_
   simp (maxSteps := 1000000) (disch := (first | omega | assumption)) only [go_sem]
  rw [if_neg c4, if_neg (by omega)] at g3
  have c4' : ¬((l.getD i.toNat default).amt < 1 ∨ (l.getD i.toNat default).amt > 1000000) := by omega
  rw [decide_eq_false c4'] at ho
  by_cases hi0 : 0 < i
  ·have ep := getD_map_at trC l (i - 1) [] (by omega) (by omega)
   have e4 : prvT l i.toNat = some (l.getD (i - 1).toNat default) := by
    unfold prvT; rw [if_neg (by omega)]
    rw [show i.toNat - 1 = (i - 1).toNat by omega]
   rw [e4] at g3
   have hb := byN_fc (l.getD i.toNat default) (l.getD (i - 1).toNat default)
   simp only [trC_eq] at hb
   have hgt := cmpT_gt (a := l.getD i.toNat default) (b := l.getD (i - 1).toNat default)
   generalize hC : cmpT (l.getD i.toNat default) (l.getD (i - 1).toNat default) = C at hb hgt
   by_cases c5 : ltT (l.getD (i - 1).toNat default) (l.getD i.toNat default)
   ·rw [if_neg (show ¬(ordT (some (l.getD (i - 1).toNat default)) (l.getD i.toNat default) = true) from fun h => (of_decide_eq_true h) c5)] at g3
    have h5 := hgt.2 c5
    clear hgt
    simp (maxSteps := 1000000) (disch := (first | omega | assumption)) only [go_sem]
    refine CALL_det hk1 (.inl rfl) ?_
    simp (maxSteps := 1000000) (disch := (first | omega | assumption)) only [go_sem]
    refine CALL_det hk2 (.inl rfl) ?_
    simp (maxSteps := 1000000) (disch := (first | omega | assumption)) only [go_sem]
    refine CALL_det ho (.inl rfl) ?_
    simp (maxSteps := 1000000) (disch := (first | omega | assumption)) only [go_sem]
    refine CALL_det hb (.inl rfl) ?_
    simp (maxSteps := 1000000) (disch := (first | omega | assumption)) only [go_sem]
    exact ⟨i + 1, rfl, ⟨by omega, by omega, by rw [e2, prvT_succ, ← e2]; exact g3⟩, by omega⟩
   ·rw [if_pos (show ordT (some (l.getD (i - 1).toNat default)) (l.getD i.toNat default) = true from decide_eq_true c5)] at g3
    have h5 : ¬0 < C := fun h => c5 (hgt.1 h)
    clear hgt
    rw [← g3, if_pos (by omega)]
    simp (maxSteps := 1000000) (disch := (first | omega | assumption)) only [go_sem]
    refine CALL_det hk1 (.inl rfl) ?_
    simp (maxSteps := 1000000) (disch := (first | omega | assumption)) only [go_sem]
    refine CALL_det hk2 (.inl rfl) ?_
    simp (maxSteps := 1000000) (disch := (first | omega | assumption)) only [go_sem]
    refine CALL_det ho (.inl rfl) ?_
    simp (maxSteps := 1000000) (disch := (first | omega | assumption)) only [go_sem]
    refine CALL_det hb (.inl rfl) ?_
    simp (maxSteps := 1000000) (disch := (first | omega | assumption)) only [go_sem]
  ·have e0 : i = 0 := by omega
   subst e0
   rw [show prvT l (Int.toNat 0) = none from rfl, if_neg (by simp [ordT])] at g3
   simp (maxSteps := 1000000) (disch := (first | omega | assumption)) only [go_sem]
   refine CALL_det hk1 (.inl rfl) ?_
   simp (maxSteps := 1000000) (disch := (first | omega | assumption)) only [go_sem]
   refine CALL_det hk2 (.inl rfl) ?_
   simp (maxSteps := 1000000) (disch := (first | omega | assumption)) only [go_sem]
   refine CALL_det ho (.inl rfl) ?_
   simp (maxSteps := 1000000) (disch := (first | omega | assumption)) only [go_sem]
   exact ⟨1, rfl, ⟨by omega, by omega, g3⟩, by omega⟩
 ·rw [List.drop_eq_nil_of_le (by omega), tgGo] at g3
  rw [if_neg (show ¬(tgGo none l ≠ 0) by omega)]
  simp (maxSteps := 1000000) (disch := (first | omega | assumption)) only [go_sem]
  refine CALL_det (into_fc false l hl0) (.inr ⟨rfl, rfl⟩) ?_
  simp (maxSteps := 1000000) (disch := (first | omega | assumption)) only [go_sem]
  refine ex_loop1 (ck2St l) (fun i => 0 ≤ i ∧ i ≤ l.length ∧ ((l.drop i.toNat).any fun x => decide (x.to ∈ srcL l x.to)) = l.any fun x => decide (x.to ∈ srcL l x.to)) (fun i => (l.length - i).toNat) 0 ⟨by omega, by omega, rfl⟩ rfl ?_
  rintro i ⟨g1, g2, g3⟩
  unfold ck2St
  by_cases hi : i < l.length
  ·have e2 : (i + 1).toNat = i.toNat + 1 := by omega
   have em := getD_map_at trC l i [] g1 hi
   have hs := sources_fc l (l.getD i.toNat default).to hl0
   rw [drop_cons l i.toNat (by omega), List.any_cons, ← e2] at g3
   by_cases c1 : (l.getD i.toNat default).to ∈ srcL l (l.getD i.toNat default).to
   ·rw [decide_eq_true c1, Bool.true_or] at g3
    rw [if_pos g3.symm]
    have cd := decide_eq_true c1
    simp (maxSteps := 1000000) (disch := (first | omega | assumption)) only [go_sem]
    refine CALL_det hs (.inr ⟨rfl, rfl⟩) ?_
    simp (maxSteps := 1000000) (disch := (first | omega | assumption)) only [go_sem]
   ·rw [decide_eq_false c1, Bool.false_or] at g3
    have cd := decide_eq_false c1
    simp (maxSteps := 1000000) (disch := (first | omega | assumption)) only [go_sem]
    refine CALL_det hs (.inr ⟨rfl, rfl⟩) ?_
    simp (maxSteps := 1000000) (disch := (first | omega | assumption)) only [go_sem]
    exact ⟨i + 1, rfl, ⟨by omega, by omega, g3⟩, by omega⟩
  ·rw [List.drop_eq_nil_of_le (by omega), List.any_nil] at g3
   rw [if_neg (by rw [← g3]; simp)]
   simp (maxSteps := 1000000) (disch := (first | omega | assumption)) only [go_sem]
end Go.Proofs.YtodmofhehabmgaaGreatDoor

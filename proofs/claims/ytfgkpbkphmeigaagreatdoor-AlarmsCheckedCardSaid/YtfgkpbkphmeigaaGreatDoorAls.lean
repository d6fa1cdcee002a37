/-
 Alarms, written: the reference's text; a text that is changed.
-/
import Derived.Test.YtfgkpbkphmeigaaGreatDoorTex
namespace Go.Proofs.YtfgkpbkphmeigaaGreatDoor
open Go Go.Ai
set_option linter.unusedSimpArgs false
set_option linter.unusedVariables false
set_option maxHeartbeats 4000000
def C_awords : AC := (.seq (.reg false [gI 0 (.mv (.v (.slice none 0 0)))] (kP [] [] []))
 (.seq (.reg false [gI 1 (.bslice 1 4 [(.v (.string (ByteArray.mk #[]))),(.v (.string (ByteArray.mk #[104,105,103,104]))),(.v (.string (ByteArray.mk #[108,111,119]))),(.v (.string (ByteArray.mk #[98,97,100])))]),gM 0 1] (kP [0] [] []))
 .ret))
theorem fc_awords : FcT Tryz.prog 101 Tryz.f101 C_awords [.t 0] := fc_mk [aN [] [] [],aN [0] [] []] Tryz.func101 (by kernel_rfl)
def C_alines : AC := (.seq (.reg false [gI 2 (.mv (.v (.string (ByteArray.mk #[]))))] (kP [0,900003] [] []))
 (.seq (.seq (.reg false [gI 3 (.bld [(.pointer none),(.slice none 0 0)])] (kP [0,3,900003] [900003] []))
 (.ownb 900003 1 150003 5 1))
 (.seq (.reg false [gI 4 (.mv (.f 99))] (kP [0,3,4,900003] [900003] [150003]))
 (.seq (.seq (.reg false [gM 9 0,gI 10 (.len (.t 9)),gI 11 (.mv (oI 0))] (kP [3,4,9,10,11,900003] [900003] [150003]))
 (.block 0 (.loop (.seq (.reg false [gI 12 (.bin .lss (.t 11) (.t 10))] (kP [3,4,9,10,11,12,900003] [900003] [150003]))
 (.seq (.cond (.t 12)
 .skip
 (.exit 0))
 (.seq (.block 1 (.seq (.reg false [gI 13 (.iadr 10 (.t 9) (.t 11)),gI 14 (.load true 10 (.t 13)),gI 6 (.alloc [(.string (ByteArray.mk #[])),(.string (ByteArray.mk #[])),(.int .i64 (0)),(.int .i64 (0)),(.int .i64 (0)),(.int .i64 (0)),(.int .i64 (0)),(.int .i64 (0)),(.bool false),(.string (ByteArray.mk #[]))]),gN (.store 10 (.t 6) (.t 14))] (kP [3,4,6,9,10,11,900003] [6,900003] [150003]))
 (.seq (.reg true [gI 15 (.fadr 9 (.t 6)),gI 16 (.load false 1 (.t 15)),gI 7 (.mv (.v (.string (ByteArray.mk #[48])))),gM 8 16] (kP [3,4,6,7,8,9,10,11,900003] [6,900003] [150003]))
 (.seq (.seq (.reg false [gI 17 (.fadr 8 (.t 6)),gI 18 (.load false 1 (.t 17))] (kP [3,4,6,7,8,9,10,11,18,900003] [6,900003] [150003]))
 (.cond (.t 18)
 (.reg false [gI 7 (.mv (.v (.string (ByteArray.mk #[49]))))] (kP [3,4,6,7,8,9,10,11,900003] [6,900003] [150003]))
 .skip))
 (.seq (.seq (.reg false [gM 19 8,gI 20 (.bin .eql (.t 19) (.v (.string (ByteArray.mk #[]))))] (kP [3,4,6,7,8,9,10,11,20,900003] [6,900003] [150003]))
 (.cond (.t 20)
 (.reg false [gI 8 (.mv (.v (.string (ByteArray.mk #[45]))))] (kP [3,4,6,7,8,9,10,11,900003] [6,900003] [150003]))
 .skip))
 (.reg true [gI 21 (.fadr 0 (.t 6)),gI 22 (.load false 1 (.t 21)),gI 23 (.fadr 1 (.t 6)),gI 24 (.load false 1 (.t 23)),gI 25 (.call (.f 101) []),gI 26 (.fadr 2 (.t 6)),gI 27 (.load false 1 (.t 26)),gI 28 (.iadr 1 (.t 25) (.t 27)),gI 29 (.load false 1 (.t 28)),gM 30 4,gI 31 (.fadr 3 (.t 6)),gI 32 (.load false 1 (.t 31)),gI 33 (.call (.t 30) [(.t 32)]),gM 34 4,gI 35 (.fadr 4 (.t 6)),gI 36 (.load false 1 (.t 35)),gI 37 (.call (.t 34) [(.t 36)]),gM 38 4,gI 39 (.fadr 5 (.t 6)),gI 40 (.load false 1 (.t 39)),gI 41 (.call (.t 38) [(.t 40)]),gM 42 4,gI 43 (.fadr 6 (.t 6)),gI 44 (.load false 1 (.t 43)),gI 45 (.call (.t 42) [(.t 44)]),gM 46 4,gI 47 (.fadr 7 (.t 6)),gI 48 (.load false 1 (.t 47)),gI 49 (.call (.t 46) [(.t 48)]),gM 50 7,gM 51 8,gI 52 (.bslice 1 10 [(.t 22),(.t 24),(.t 29),(.t 33),(.t 37),(.t 41),(.t 45),(.t 49),(.t 50),(.t 51)]),gI 53 (.call (.f 100) [(.t 52),(.v (.string (ByteArray.mk #[32])))]),gI 54 (.bin .add (.t 53) (.v (.string (ByteArray.mk #[10])))),gI 55 (.callm (.f 95) [(.t 3),(.t 54)] ⟨[900003],[150003],[900003],[150003],[]⟩)] (kP [3,4,9,10,11,900003] [900003] [150003])))))))
 (.reg false [gI 56 (.bin .add (.t 11) (oI 1)),gM 11 56] (kP [3,4,9,10,11,900003] [900003] [150003]))))))))
 (.seq (.reg false [gI 57 (.callm (.f 98) [(.t 3)] ⟨[900003],[150003],[900003],[150003],[]⟩),gM 2 57] (kP [2,900003] [900003] []))
 .ret)))))
theorem fc_alines : FcT Tryz.prog 23 Tryz.f23 C_alines [.t 2] := fc_mk [aN [0,900003] [] [],⟨(kP [0,3,900003] [900003] []),[(1150003,5,1)],[],[],[]⟩,aN [0,3,4,900003] [900003] [150003],aN [3,4,9,10,11,900003] [900003] [150003],aN [3,4,9,10,11,12,900003] [900003] [150003],aN [3,4,6,9,10,11,900003] [6,900003] [150003],aN [3,4,6,7,8,9,10,11,900003] [6,900003] [150003],aN [3,4,6,7,8,9,10,11,18,900003] [6,900003] [150003],aN [3,4,6,7,8,9,10,11,900003] [6,900003] [150003],aN [3,4,6,7,8,9,10,11,20,900003] [6,900003] [150003],aN [3,4,6,7,8,9,10,11,900003] [6,900003] [150003],⟨(kP [3,4,9,10,11,900003] [900003] [150003]),[],[],[],[(55,⟨[900003],[150003],[900003],[150003],[]⟩)]⟩,aN [3,4,9,10,11,900003] [900003] [150003],⟨(kP [2,900003] [900003] []),[],[],[],[(57,⟨[900003],[150003],[900003],[150003],[]⟩)]⟩] Tryz.func23 (by kernel_rfl)
def awL : List ByteArray := [emp, hiW, loW, baW]
theorem awords_fc : FC Tryz.prog 101 none [] (fun _ r => r = strs true awL) := by
 refine fc_awords (by simp +arith) ?_
 unfold C_awords
 simp (maxSteps := 1000000) (disch := (first | omega | assumption)) only [go_sem]
 rfl
theorem awL_at {k : Int} (h : 1 ≤ k ∧ k ≤ 3) : awL.getD k.toNat default = kwB k := by
 have : k = 1 ∨ k = 2 ∨ k = 3 := by omega
 rcases this with rfl | rfl | rfl <;> rfl
theorem lib_join (c : UInt8) : ∀ xs : List (List UInt8), Lib.join xs [c] = jn c xs
 | [] => rfl
 | [x] => by simp [Lib.join, jn]
 | x :: y :: r => by
  have := lib_join c (y :: r)
  rw [jn, ← this]
  simp [Lib.join, List.intercalate]
theorem joinB_line (x : Alm) : joinB (fldB x) ⟨#[32]⟩ = bS (lineA x) := by
 apply ba_ext
 rw [bS_list]
 exact lib_join 32 (flds x)
def pAl (k : Nat) : Nat := if k = 900003 then 1900001 else if k = 1900001 then 900003 else k
def qAl (k : Nat) : Nat := if k = 150003 then 1000002 else if k = 1000002 then 150003 else k
theorem pAl_p (k : Nat) : pAl (pAl k) = k := by unfold pAl; (repeat' split) <;> omega
theorem qAl_q (k : Nat) : qAl (qAl k) = k := by unfold qAl; (repeat' split) <;> omega
def apC : Bool → Cel
 | false => .g (.pointer none)
 | true => .bx 900003 0
theorem apC_t : apC true = .bx 900003 0 := rfl
theorem apC_f : apC false = .g (.pointer none) := rfl
def alSt2 (l : List Alm) (i : Int) (o : List UInt8) (q : Bool) : AS := ⟨tabV [(3, .one (.bx 900003 0)), (4, .one (.fn 99 [])), (9, alms false l), (10, iv l.length), (11, iv i), (900003, .any)], tabO [(900003, [apC q, .ow 150003 0])], tabO [(150003, bRow o)]⟩
set_option maxHeartbeats 16000000 in
theorem alines_fc (l : List Alm) (hok : AlmOk l) : FC Tryz.prog 23 none [alms false l] (fun _ r => r = sv (bS (textA l))) := by
 have hw := almW_of hok
 have htl := text_len l hw
 have hlen := hok.len
 refine fc_alines (by simp +arith) ?_
 unfold C_alines
 simp (maxSteps := 1000000) (disch := (first | omega | assumption)) only [go_sem]
 refine ex_loop3 (fun i o q => alSt2 l i o q) (fun i o q => 0 ≤ i ∧ i ≤ l.length ∧ o ++ textA (l.drop i.toNat) = textA l) (fun i _ _ => (l.length - i).toNat) 0 [] false ⟨by omega, by omega, rfl⟩ rfl ?_
 rintro i o q ⟨g1, g2, g3⟩
 unfold alSt2
 have ho : o.length ≤ (textA l).length := by rw [← g3, List.length_append]; omega
 by_cases hi : i < l.length
 ·have e2 : (i + 1).toNat = i.toNat + 1 := by omega
  have em := getD_map_at almS l i [] g1 hi
  have hx := hw _ (getD_mem l i.toNat (by omega))
  rw [drop_cons l i.toNat (by omega), textA_cons, ← e2, ← List.append_assoc] at g3
  cases hlt : (l.getD i.toNat default).lt
  all_goals
   by_cases hp : (l.getD i.toNat default).p = emp
   all_goals
    simp (maxSteps := 1000000) (disch := (first | omega | assumption)) only [go_sem]
    simp only [hlt, forall_const, reduceCtorEq, false_implies, and_true, true_and, true_implies]
    refine CALL_det awords_fc (.inl rfl) ?_
    have hlx := line_len hx
    have hls : (bS (lineA (l.getD i.toNat default))).size ≤ 410 := by rw [bS_size]; exact hlx
    have hsz : (bS (lineA (l.getD i.toNat default)) ++ ByteArray.mk #[10]).size ≤ 411 := by rw [app_size]; exact Nat.add_le_add hls (Nat.le_refl 1)
    have hdl : (bS (lineA (l.getD i.toNat default)) ++ ByteArray.mk #[10]).data.toList = lineA (l.getD i.toNat default) ++ [10] := app_list _ _
    have h10 : (ByteArray.mk #[10]).size = 1 := rfl
    have hb : big15 = 1000000000000000 := rfl
    have n1 := hx.n1
    have n2 := hx.n2
    have n3 := hx.n3
    have n4 := hx.n4
    have n5 := hx.n5
    have hkd := hx.kd
    have hak := awL_at hkd
    have ha4 : awL.length = 4 := rfl
    have i1 := itoa_fc (l.getD i.toNat default).lim ⟨by omega, by omega⟩
    have i2 := itoa_fc (l.getD i.toNat default).db ⟨by omega, by omega⟩
    have i3 := itoa_fc (l.getD i.toNat default).on ⟨by omega, by omega⟩
    have i4 := itoa_fc (l.getD i.toNat default).off ⟨by omega, by omega⟩
    have i5 := itoa_fc (l.getD i.toNat default).pr ⟨by omega, by omega⟩
    have hfl : (fldB (l.getD i.toNat default)).length = 10 := rfl
    have hjn := join_fc false (fldB (l.getD i.toNat default)) (by intro h; rw [h] at hfl; cases hfl) ⟨#[32]⟩ (by omega) (by
     rw [show (fldB (l.getD i.toNat default)).map (·.data.toList) = flds (l.getD i.toNat default) from rfl, show (ByteArray.mk #[32]).data.toList = [32] from rfl, lib_join]
     show (lineA (l.getD i.toNat default)).length ≤ _
     omega)
    rw [joinB_line] at hjn
    have hj2 := hjn
    simp only [fldB, ltB, upB, hlt, hp, if_true, if_false, Bool.false_eq_true, reduceCtorEq] at hj2
    clear hjn hfl hlx
    generalize hnl : ByteArray.mk #[10] = nl at *
    simp (maxSteps := 1000000) (disch := (first | omega | assumption)) only [go_sem]
    refine CALL_det i1 (.inl rfl) ?_
    simp (maxSteps := 1000000) (disch := (first | omega | assumption)) only [go_sem]
    refine CALL_det i2 (.inl rfl) ?_
    simp (maxSteps := 1000000) (disch := (first | omega | assumption)) only [go_sem]
    refine CALL_det i3 (.inl rfl) ?_
    simp (maxSteps := 1000000) (disch := (first | omega | assumption)) only [go_sem]
    refine CALL_det i4 (.inl rfl) ?_
    simp (maxSteps := 1000000) (disch := (first | omega | assumption)) only [go_sem]
    refine CALL_det i5 (.inl rfl) ?_
    simp (maxSteps := 1000000) (disch := (first | omega | assumption)) only [go_sem]
    simp only [hak]
    refine CALL_det hj2 (.inl rfl) ?_
    cases q
    all_goals
     simp only [apC_t, apC_f]
     simp (maxSteps := 1000000) (disch := (first | omega | assumption)) only [go_sem]
     first | refine ⟨rfl, CALLM_rnE ⟨[(900003, [.bx 900003 0, .ow 150003 0])], [(150003, bRow (o ++ (lineA (l.getD i.toNat default) ++ [10])))]⟩ (.tu [iv (bS (lineA (l.getD i.toNat default)) ++ nl).size, .one (.g .nilIface)]) pAl qAl pAl_p qAl_q (writeString_fcm false o (bS (lineA (l.getD i.toNat default)) ++ nl) (by omega)) (by simp) rfl rfl (by rw [hdl]; rfl) rfl ⟨rfl, rfl⟩ ?_⟩ | refine ⟨rfl, CALLM_rnE ⟨[(900003, [.bx 900003 0, .ow 150003 0])], [(150003, bRow (o ++ (lineA (l.getD i.toNat default) ++ [10])))]⟩ (.tu [iv (bS (lineA (l.getD i.toNat default)) ++ nl).size, .one (.g .nilIface)]) pAl qAl pAl_p qAl_q (writeString_fcm true o (bS (lineA (l.getD i.toNat default)) ++ nl) (by omega)) (by simp) rfl rfl (by rw [hdl]; rfl) rfl ⟨rfl, rfl⟩ ?_⟩
     simp (maxSteps := 1000000) (disch := (first | omega | assumption)) only [go_sem]
     exact ⟨i + 1, o ++ (lineA (l.getD i.toNat default) ++ [10]), true, rfl, ⟨by omega, by omega, g3⟩, by omega⟩
 ·rw [List.drop_eq_nil_of_le (by omega)] at g3
  have g4 : o = textA l := by rw [← g3]; simp [textA]
  subst g4
  cases q
  all_goals
   simp only [apC_t, apC_f]
   simp (maxSteps := 1000000) (disch := (first | omega | assumption)) only [go_sem]
   first | refine ⟨rfl, CALLM_rnE ⟨[(900003, [.g (.pointer none), .any])], [(150003, bRow [])]⟩ (sv (bS (textA l))) pAl qAl pAl_p qAl_q (string_fcm false (textA l)) (by simp) rfl rfl rfl rfl ⟨rfl, rfl⟩ ?_⟩ | refine ⟨rfl, CALLM_rnE ⟨[(900003, [.bx 900003 0, .any])], [(150003, bRow [])]⟩ (sv (bS (textA l))) pAl qAl pAl_p qAl_q (string_fcm true (textA l)) (by simp) rfl rfl rfl rfl ⟨rfl, rfl⟩ ?_⟩
   simp (maxSteps := 1000000) (disch := (first | omega | assumption)) only [go_sem]
end Go.Proofs.YtfgkpbkphmeigaaGreatDoor

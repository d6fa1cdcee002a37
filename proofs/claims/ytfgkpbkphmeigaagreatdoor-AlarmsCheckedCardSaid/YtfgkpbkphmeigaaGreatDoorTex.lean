/-
 Alarms, written: alarm.Text.
-/
import Derived.Test.YtfgkpbkphmeigaaGreatDoorWrt
namespace Go.Proofs.YtfgkpbkphmeigaaGreatDoor
open Go Go.Ai
set_option linter.unusedSimpArgs false
set_option linter.unusedVariables false
set_option maxHeartbeats 4000000
def C_text : AC := (.seq (.reg false [gI 2 (.mv (.v (.string (ByteArray.mk #[])))),gI 3 (.mv (oI 0))] (kP [0,900005] [] []))
 (.seq (.seq (.reg false [gM 8 0,gI 9 (.call (.f 14) [(.t 8)]),gM 4 9] (kP [0,4,900005] [] []))
 (.seq (.reg false [gM 10 4,gI 11 (.bin .neq (.t 10) (oI 0))] (kP [0,4,11,900005] [] []))
 (.cond (.t 11)
 (.seq (.reg false [gM 12 4,gI 2 (.mv (.v (.string (ByteArray.mk #[])))),gM 3 12] (kP [2,3,900005] [900005] []))
 .ret)
 .skip)))
 (.seq (.seq (.reg false [gI 5 (.bld [(.pointer none),(.slice none 0 0)])] (kP [0,5,900005] [900005] []))
 (.ownb 900005 1 150005 5 1))
 (.seq (.seq (.reg false [gM 13 0,gI 14 (.len (.t 13)),gI 15 (.mv (oI 0))] (kP [5,13,14,15,900005] [900005] [150005]))
 (.block 0 (.loop (.seq (.reg false [gI 16 (.bin .lss (.t 15) (.t 14))] (kP [5,13,14,15,16,900005] [900005] [150005]))
 (.seq (.cond (.t 16)
 .skip
 (.exit 0))
 (.seq (.block 1 (.seq (.reg false [gI 17 (.iadr 10 (.t 13) (.t 15)),gI 18 (.load true 10 (.t 17)),gI 7 (.alloc [(.string (ByteArray.mk #[])),(.string (ByteArray.mk #[])),(.int .i64 (0)),(.int .i64 (0)),(.int .i64 (0)),(.int .i64 (0)),(.int .i64 (0)),(.int .i64 (0)),(.bool false),(.string (ByteArray.mk #[]))]),gN (.store 10 (.t 7) (.t 18))] (kP [5,7,13,14,15,900005] [7,900005] [150005]))
 (.reg false [gI 19 (.load true 10 (.t 7)),gI 20 (.call (.f 96) [(.t 19)]),gI 21 (.bin .add (.t 20) (.v (.string (ByteArray.mk #[10])))),gI 22 (.callm (.f 95) [(.t 5),(.t 21)] ⟨[900005],[150005],[900005],[150005],[]⟩)] (kP [5,13,14,15,900005] [900005] [150005]))))
 (.reg false [gI 23 (.bin .add (.t 15) (oI 1)),gM 15 23] (kP [5,13,14,15,900005] [900005] [150005]))))))))
 (.seq (.seq (.reg false [gI 24 (.callm (.f 97) [(.t 5)] ⟨[900005],[150005],[900005],[150005],[]⟩),gI 25 (.bin .gtr (.t 24) (oI 200000))] (kP [5,25,900005] [900005] [150005]))
 (.cond (.t 25)
 (.seq (.reg false [gI 2 (.mv (.v (.string (ByteArray.mk #[])))),gI 3 (.mv (oI 2))] (kP [2,3,900005] [900005] []))
 .ret)
 .skip))
 (.seq (.reg false [gI 26 (.callm (.f 98) [(.t 5)] ⟨[900005],[150005],[900005],[150005],[]⟩),gM 2 26,gI 3 (.mv (oI 0))] (kP [2,3,900005] [900005] []))
 .ret))))))
theorem fc_text : FcT Tryz.prog 22 Tryz.f22 C_text [.t 2, .t 3] := fc_mk [aN [0,900005] [] [],aN [0,4,900005] [] [],aN [0,4,11,900005] [] [],aN [2,3,900005] [900005] [],⟨(kP [0,5,900005] [900005] []),[(1150005,5,1)],[],[],[]⟩,aN [5,13,14,15,900005] [900005] [150005],aN [5,13,14,15,16,900005] [900005] [150005],aN [5,7,13,14,15,900005] [7,900005] [150005],⟨(kP [5,13,14,15,900005] [900005] [150005]),[],[],[],[(22,⟨[900005],[150005],[900005],[150005],[]⟩)]⟩,aN [5,13,14,15,900005] [900005] [150005],⟨(kP [5,25,900005] [900005] [150005]),[],[],[],[(24,⟨[900005],[150005],[900005],[150005],[]⟩)]⟩,aN [2,3,900005] [900005] [],⟨(kP [2,3,900005] [900005] []),[],[],[],[(26,⟨[900005],[150005],[900005],[150005],[]⟩)]⟩] Tryz.func22 (by kernel_rfl)
def pTx (k : Nat) : Nat := if k = 900005 then 1900001 else if k = 1900001 then 900005 else k
def qTx (k : Nat) : Nat := if k = 150005 then 1000002 else if k = 1000002 then 150005 else k
theorem pTx_p (k : Nat) : pTx (pTx k) = k := by unfold pTx; (repeat' split) <;> omega
theorem qTx_q (k : Nat) : qTx (qTx k) = k := by unfold qTx; (repeat' split) <;> omega
def tpC : Bool → Cel
 | false => .g (.pointer none)
 | true => .bx 900005 0
theorem tpC_t : tpC true = .bx 900005 0 := rfl
theorem tpC_f : tpC false = .g (.pointer none) := rfl
def txSt (l : List Alm) (i : Int) (o : List UInt8) (q : Bool) : AS := ⟨tabV [(5, .one (.bx 900005 0)), (13, alms false l), (14, iv l.length), (15, iv i), (900005, .any)], tabO [(900005, [tpC q, .ow 150005 0])], tabO [(150005, bRow o)]⟩
theorem datE_byt (l : List UInt8) : datE (l.map bytC) = l.map bytC := datE_map (fun _ => rfl) l
attribute [go_sem] datE_byt
theorem text_fc (l : List Alm) (h : caF l = 0) : FC Tryz.prog 22 none [alms false l] (fun _ r => r = .tu [sv (bS (textA l)), iv 0]) := by
 have hok := almOk_ca h
 have hw := almW_of hok
 have htl := text_len l hw
 have hlen := hok.len
 have hca := checkAlarmsG_fc l (by omega) (fun x hx => by have h1 := (hw x hx).k.2; have h2 := (hw x hx).t.2; omega)
 rw [h] at hca
 refine fc_text (by simp +arith) ?_
 unfold C_text
 simp (maxSteps := 1000000) (disch := (first | omega | assumption)) only [go_sem]
 refine CALL_det hca (.inl rfl) ?_
 simp (maxSteps := 1000000) (disch := (first | omega | assumption)) only [go_sem]
 refine ex_loop3 (fun i o q => txSt l i o q) (fun i o q => 0 ≤ i ∧ i ≤ l.length ∧ o ++ textA (l.drop i.toNat) = textA l) (fun i _ _ => (l.length - i).toNat) 0 [] false ⟨by omega, by omega, rfl⟩ rfl ?_
 rintro i o q ⟨g1, g2, g3⟩
 unfold txSt
 have ho : o.length ≤ (textA l).length := by rw [← g3, List.length_append]; omega
 by_cases hi : i < l.length
 ·have e2 : (i + 1).toNat = i.toNat + 1 := by omega
  have em := getD_map_at almS l i [] g1 hi
  have hx := hw _ (getD_mem l i.toNat (by omega))
  rw [drop_cons l i.toNat (by omega), textA_cons, ← e2, ← List.append_assoc] at g3
  have hlx := line_len hx
  have hln := line_fc _ hx
  have hls : (bS (lineA (l.getD i.toNat default))).size ≤ 410 := by rw [bS_size]; exact hlx
  have hsz : (bS (lineA (l.getD i.toNat default)) ++ ByteArray.mk #[10]).size ≤ 411 := by rw [app_size]; exact Nat.add_le_add hls (Nat.le_refl 1)
  have hdl : (bS (lineA (l.getD i.toNat default)) ++ ByteArray.mk #[10]).data.toList = lineA (l.getD i.toNat default) ++ [10] := app_list _ _
  have h10 : (ByteArray.mk #[10]).size = 1 := rfl
  rw [almS_eq] at hln
  generalize hnl : ByteArray.mk #[10] = nl at *
  cases q
  all_goals
   simp only [tpC_t, tpC_f]
   simp (maxSteps := 1000000) (disch := (first | omega | assumption)) only [go_sem]
   refine CALL_det hln (.inl rfl) ?_
   simp (maxSteps := 1000000) (disch := (first | omega | assumption)) only [go_sem]
   first | refine ⟨rfl, CALLM_rnE ⟨[(900005, [.bx 900005 0, .ow 150005 0])], [(150005, bRow (o ++ (lineA (l.getD i.toNat default) ++ [10])))]⟩ (.tu [iv (bS (lineA (l.getD i.toNat default)) ++ nl).size, .one (.g .nilIface)]) pTx qTx pTx_p qTx_q (writeString_fcm false o (bS (lineA (l.getD i.toNat default)) ++ nl) (by omega)) (by simp) rfl rfl (by rw [hdl]; rfl) rfl ⟨rfl, rfl⟩ ?_⟩ | refine ⟨rfl, CALLM_rnE ⟨[(900005, [.bx 900005 0, .ow 150005 0])], [(150005, bRow (o ++ (lineA (l.getD i.toNat default) ++ [10])))]⟩ (.tu [iv (bS (lineA (l.getD i.toNat default)) ++ nl).size, .one (.g .nilIface)]) pTx qTx pTx_p qTx_q (writeString_fcm true o (bS (lineA (l.getD i.toNat default)) ++ nl) (by omega)) (by simp) rfl rfl (by rw [hdl]; rfl) rfl ⟨rfl, rfl⟩ ?_⟩
   simp (maxSteps := 1000000) (disch := (first | omega | assumption)) only [go_sem]
   exact ⟨i + 1, o ++ (lineA (l.getD i.toNat default) ++ [10]), true, rfl, ⟨by omega, by omega, g3⟩, by omega⟩
 ·rw [List.drop_eq_nil_of_le (by omega)] at g3
  have g4 : o = textA l := by rw [← g3]; simp [textA]
  subst g4
  cases q
  all_goals
   simp only [tpC_t, tpC_f]
   simp (maxSteps := 1000000) (disch := (first | omega | assumption)) only [go_sem]
   first | refine ⟨rfl, CALLM_rnE ⟨[(900005, [.g (.pointer none), .ow 150005 0])], [(150005, bRow (textA l))]⟩ (iv (textA l).length) pTx qTx pTx_p qTx_q (blen_fcm false (textA l) (by omega)) (by simp) rfl rfl rfl rfl ⟨rfl, rfl⟩ ?_⟩ | refine ⟨rfl, CALLM_rnE ⟨[(900005, [.bx 900005 0, .ow 150005 0])], [(150005, bRow (textA l))]⟩ (iv (textA l).length) pTx qTx pTx_p qTx_q (blen_fcm true (textA l) (by omega)) (by simp) rfl rfl rfl rfl ⟨rfl, rfl⟩ ?_⟩
   simp (maxSteps := 1000000) (disch := (first | omega | assumption)) only [go_sem]
   first | refine ⟨rfl, CALLM_rnE ⟨[(900005, [.g (.pointer none), .any])], [(150005, bRow [])]⟩ (sv (bS (textA l))) pTx qTx pTx_p qTx_q (string_fcm false (textA l)) (by simp) rfl rfl rfl rfl ⟨rfl, rfl⟩ ?_⟩ | refine ⟨rfl, CALLM_rnE ⟨[(900005, [.bx 900005 0, .any])], [(150005, bRow [])]⟩ (sv (bS (textA l))) pTx qTx pTx_p qTx_q (string_fcm true (textA l)) (by simp) rfl rfl rfl rfl ⟨rfl, rfl⟩ ?_⟩
   simp (maxSteps := 1000000) (disch := (first | omega | assumption)) only [go_sem]
end Go.Proofs.YtfgkpbkphmeigaaGreatDoor


/-
 AlarmsStay: the walk.
-/
import Derived.Test.YtcagelfmngmocaaGreatDoorAsh
import Derived.Test.YtcagelfmngmocaaGreatDoorMrg
import Derived.Test.YtcagelfmngmocaaGreatDoorIgn
import Derived.Test.YtcagelfmngmocaaGreatDoorSlq
namespace Go.Proofs.YtcagelfmngmocaaGreatDoor
open Go Go.Ai
set_option linter.unusedSimpArgs false
set_option linter.unusedVariables false
set_option maxHeartbeats 4000000
def C_asy : AC := (.seq (.reg false [gI 2 (.mv (.v (.bool false)))] (kP [0] [] []))
 (.seq (.reg false [gM 21 0,gI 22 (.build [(.slice none 0 0),(.int .i64 (0))] [(0,1,(.t 21))]),gI 23 (.box (.t 22)),gM 24 0,gI 25 (.build [(.slice none 0 0),(.int .i64 (0))] [(0,1,(.t 24))]),gI 26 (.box (.t 25)),gM 3 23,gM 4 26] (kP [3,4,23,26] [23,26] []))
 (.seq (.reg false [gM 27 3,gI 28 (.callx (.f 7) [(.t 27)]),gM 29 4,gI 30 (.callx (.f 7) [(.t 29)]),gM 5 28,gM 6 30] (kP [3,4,5,6,23,26] [23,26] []))
 (.seq (.reg false [gM 31 3,gI 32 (.callx (.f 8) [(.t 31),(oI 8)]),gM 33 4,gI 34 (.callx (.f 8) [(.t 33),(oI 8)]),gM 7 32,gM 8 34] (kP [3,4,5,6,7,8,23,26] [23,26] []))
 (.seq (.reg false [gM 35 3,gI 36 (.callx (.f 9) [(.t 35)]),gM 37 4,gI 38 (.callx (.f 9) [(.t 37)]),gM 9 36,gM 10 38] (kP [5,6,7,8,9,10] [] []))
 (.seq (.reg false [gM 40 9,gI 41 (.callm (.f 15) [(.t 40),(.v (.slice none 0 0))] ⟨[],[],[],[5001],[]⟩),gM 39 41,gI 42 (.extr (.t 39) 0),gI 43 (.extr (.t 39) 1),gM 11 42,gM 12 43] (kP [5,6,7,8,9,10,11,12] [] [5001]))
 (.seq (.reg false [gM 45 5,gM 46 7,gM 47 9,gI 48 (.build [(.int .i64 (0)),(.int .i64 (0))] [(1,1,(oI 200))]),gI 49 (.callm (.f 11) [(.t 45),(.t 46),(.t 47),(.t 48)] ⟨[],[],[],[5002],[]⟩),gM 44 49,gI 50 (.extr (.t 44) 0),gI 51 (.extr (.t 44) 1),gM 13 50,gM 14 51] (kP [5,6,7,8,9,10,11,12,13,14] [] [5001,5002]))
 (.seq (.reg false [gM 53 5,gM 54 7,gM 55 9,gI 56 (.callm (.f 16) [(.t 53),(.t 54),(.t 55)] ⟨[],[],[],[5003],[]⟩),gM 52 56,gI 57 (.extr (.t 52) 0),gI 58 (.extr (.t 52) 1),gM 15 57,gM 16 58] (kP [5,6,7,8,9,10,11,12,13,14,15,16] [] [5001,5002,5003]))
 (.seq (.reg false [gM 60 5,gM 61 7,gI 62 (.build [(.int .i64 (0)),(.int .i64 (0))] [(1,1,(oI 200))]),gI 63 (.callm (.f 17) [(.t 60),(.t 61),(.t 62),(oI 1),(oI 50)] ⟨[],[],[],[5004],[]⟩),gM 59 63,gI 64 (.extr (.t 59) 0),gI 65 (.extr (.t 59) 1),gM 17 64,gM 18 65] (kP [5,6,7,8,9,10,11,12,13,14,15,16,17,18] [] [5001,5002,5003,5004]))
 (.seq (.seq (.reg false [gM 66 12,gI 67 (.bin .neq (.t 66) (oI 0)),gM 68 67,gG 69 68 false (.mv (.t 14)),gG 70 68 false (.bin .neq (.t 69) (oI 0)),gI 71 (.pick (.t 68) (.v (.bool true)) (.t 70)),gM 72 71,gG 73 72 false (.mv (.t 16)),gG 74 72 false (.bin .neq (.t 73) (oI 0)),gI 75 (.pick (.t 72) (.v (.bool true)) (.t 74)),gM 76 75,gG 77 76 false (.mv (.t 18)),gG 78 76 false (.bin .neq (.t 77) (oI 0)),gI 79 (.pick (.t 76) (.v (.bool true)) (.t 78))] (kP [5,6,7,8,9,10,11,13,15,17,79] [] [5001,5002,5003,5004]))
 (.cond (.t 79)
 (.seq (.reg false [gI 2 (.mv (.v (.bool false)))] (kP [2] [] []))
 .ret)
 .skip))
 (.seq (.seq (.reg false [gM 80 11,gI 81 (.len (.t 80)),gI 82 (.mv (oI 0))] (kP [5,6,7,8,9,10,11,13,15,17,81,82] [] [5001,5002,5003,5004]))
 (.block 0 (.loop (.seq (.reg false [gI 83 (.bin .lss (.t 82) (.t 81))] (kP [5,6,7,8,9,10,11,13,15,17,81,82,83] [] [5001,5002,5003,5004]))
 (.seq (.cond (.t 83)
 .skip
 (.exit 0))
 (.seq (.block 1 (.seq (.reg false [gM 84 82,gM 19 84] (kP [5,6,7,8,9,10,11,13,15,17,19,81,82] [] [5001,5002,5003,5004]))
 (.reg false [gM 85 11,gM 86 19,gI 87 (.iadr 6 (.t 85) (.t 86)),gI 88 (.fadr 4 (.t 87)),gN (.store 1 (.t 88) (.v (.string (ByteArray.mk #[115,112,111,105,108,116]))))] (kP [5,6,7,8,9,10,11,13,15,17,81,82] [] [5001,5002,5003,5004]))))
 (.reg false [gI 89 (.bin .add (.t 82) (oI 1)),gM 82 89] (kP [5,6,7,8,9,10,11,13,15,17,81,82] [] [5001,5002,5003,5004]))))))))
 (.seq (.seq (.reg false [gM 90 13,gI 91 (.len (.t 90)),gI 92 (.mv (oI 0))] (kP [5,6,7,8,9,10,13,15,17,91,92] [] [5002,5003,5004]))
 (.block 2 (.loop (.seq (.reg false [gI 93 (.bin .lss (.t 92) (.t 91))] (kP [5,6,7,8,9,10,13,15,17,91,92,93] [] [5002,5003,5004]))
 (.seq (.cond (.t 93)
 .skip
 (.exit 2))
 (.seq (.block 3 (.seq (.reg false [gM 94 92,gM 20 94] (kP [5,6,7,8,9,10,13,15,17,20,91,92] [] [5002,5003,5004]))
 (.reg false [gM 95 13,gM 96 20,gI 97 (.iadr 3 (.t 95) (.t 96)),gI 98 (.fadr 1 (.t 97)),gN (.store 1 (.t 98) (oI 777))] (kP [5,6,7,8,9,10,13,15,17,91,92] [] [5002,5003,5004]))))
 (.reg false [gI 99 (.bin .add (.t 92) (oI 1)),gM 92 99] (kP [5,6,7,8,9,10,13,15,17,91,92] [] [5002,5003,5004]))))))))
 (.seq (.reg false [gM 100 15,gI 101 (.callm (.f 18) [(.t 100)] ⟨[],[5003],[],[5003],[]⟩)] (kP [5,6,7,8,9,10,17] [] [5004]))
 (.seq (.reg false [gM 102 17,gI 103 (.callm (.f 19) [(.t 102)] ⟨[],[5004],[],[5004],[]⟩)] (kP [5,6,7,8,9,10] [] []))
 (.seq (.reg false [gM 104 5,gM 105 6,gI 106 (.call (.f 20) [(.t 104),(.t 105)]),gM 107 106,gG 108 107 true (.mv (.t 7)),gG 109 107 true (.mv (.t 8)),gG 110 107 true (.call (.f 21) [(.t 108),(.t 109)]),gI 111 (.pick (.t 107) (.t 110) (.v (.bool false))),gM 112 111,gG 113 112 true (.mv (.t 9)),gG 114 112 true (.mv (.t 10)),gG 115 112 true (.call (.f 22) [(.t 113),(.t 114)]),gI 116 (.pick (.t 112) (.t 115) (.v (.bool false))),gM 117 116,gG 118 117 true (.call (.f 14) []),gI 119 (.pick (.t 117) (.t 118) (.v (.bool false))),gM 2 119] (kP [2] [] []))
 .ret)))))))))))))))
theorem fc_asy : FcT Tryz.prog 4 Tryz.f4 C_asy [.t 2] := fc_mk [aN [0] [] [],aN [3,4,23,26] [23,26] [],aN [3,4,5,6,23,26] [23,26] [],aN [3,4,5,6,7,8,23,26] [23,26] [],aN [5,6,7,8,9,10] [] [],⟨(kP [5,6,7,8,9,10,11,12] [] [5001]),[],[],[],[(41,⟨[],[],[],[5001],[]⟩)]⟩,⟨(kP [5,6,7,8,9,10,11,12,13,14] [] [5001,5002]),[],[],[],[(49,⟨[],[],[],[5002],[]⟩)]⟩,⟨(kP [5,6,7,8,9,10,11,12,13,14,15,16] [] [5001,5002,5003]),[],[],[],[(56,⟨[],[],[],[5003],[]⟩)]⟩,⟨(kP [5,6,7,8,9,10,11,12,13,14,15,16,17,18] [] [5001,5002,5003,5004]),[],[],[],[(63,⟨[],[],[],[5004],[]⟩)]⟩,aN [5,6,7,8,9,10,11,13,15,17,79] [] [5001,5002,5003,5004],aN [2] [] [],aN [5,6,7,8,9,10,11,13,15,17,81,82] [] [5001,5002,5003,5004],aN [5,6,7,8,9,10,11,13,15,17,81,82,83] [] [5001,5002,5003,5004],aN [5,6,7,8,9,10,11,13,15,17,19,81,82] [] [5001,5002,5003,5004],aN [5,6,7,8,9,10,11,13,15,17,81,82] [] [5001,5002,5003,5004],aN [5,6,7,8,9,10,11,13,15,17,81,82] [] [5001,5002,5003,5004],aN [5,6,7,8,9,10,13,15,17,91,92] [] [5002,5003,5004],aN [5,6,7,8,9,10,13,15,17,91,92,93] [] [5002,5003,5004],aN [5,6,7,8,9,10,13,15,17,20,91,92] [] [5002,5003,5004],aN [5,6,7,8,9,10,13,15,17,91,92] [] [5002,5003,5004],aN [5,6,7,8,9,10,13,15,17,91,92] [] [5002,5003,5004],⟨(kP [5,6,7,8,9,10,17] [] [5004]),[],[],[],[(101,⟨[],[5003],[],[5003],[]⟩)]⟩,⟨(kP [5,6,7,8,9,10] [] []),[],[],[],[(103,⟨[],[5004],[],[5004],[]⟩)]⟩,aN [2] [] []] Tryz.func4 (by kernel_rfl)
theorem datE_key (l : List ByteArray) : datE (l.map keyC) = l.map keyC := by
 unfold datE
 rw [List.map_map]
 exact List.map_congr_left fun x _ => rfl
attribute [local go_sem] datE_key
def as1St (l : List Alm) (s : List Ser) (a : List Opr) (lg : List Std) (ig : List Int) (ch : List ByteArray) (i : Int) (m : List Opr) : AS := ⟨tabV [(5, alms true l), (6, alms true l), (7, sers true s), (8, sers true s), (9, oprs true a), (10, oprs true a), (11, .one (.ow 5001 0)), (13, .one (.ow 5002 0)), (15, .one (.ow 5003 0)), (17, .one (.ow 5004 0)), (81, iv a.length), (82, iv i)], tabO [], tabO [(5001, opRow m), (5002, stdRow lg), (5003, ignRow ig), (5004, keyRow ch)]⟩
def as2St (l : List Alm) (s : List Ser) (a : List Opr) (n : Nat) (ig : List Int) (ch : List ByteArray) (i : Int) (m : List Std) : AS := ⟨tabV [(5, alms true l), (6, alms true l), (7, sers true s), (8, sers true s), (9, oprs true a), (10, oprs true a), (13, .one (.ow 5002 0)), (15, .one (.ow 5003 0)), (17, .one (.ow 5004 0)), (91, iv n), (92, iv i)], tabO [], tabO [(5002, stdRow m), (5003, ignRow ig), (5004, keyRow ch)]⟩
set_option maxHeartbeats 4000000 in
theorem asy_fc (L : List Int) (hL : ∀ x ∈ L, I64 x) (hl : L.length ≤ 9223372036854775807) : FC Tryz.prog 4 none [ints false L] (fun _ r => r = bv true) := by
 refine fc_asy (by simp +arith) ?_
 obtain ⟨⟨p1, r1⟩, ⟨_, b1, l, hl0, hl3, hsl, rfl⟩, hf1⟩ := rightAlarms_det L 0 hL hl (by omega) (by omega)
 simp only at b1 hf1
 obtain ⟨⟨p2, r2⟩, ⟨c2, b2, s, hs0, hs2, hss, rfl⟩, hf2⟩ := rightTags_det 8 (by omega) (by omega) L p1 hL hl (by omega) (by omega)
 simp only at b2 c2 hf2
 obtain ⟨⟨p3, r3⟩, ⟨c3, b3, a, ha0, ha8, hsa, rfl⟩, hf3⟩ := rightActs_det L p2 hL hl (by omega) (by omega)
 simp only at b3 c3 hf3
 have hA := allOk_of hl0 hs0 ha0 hsl (fun x hx => ⟨(hss x hx).1, by have := (hss x hx).2; omega⟩) hsa
 have hA0 := allOk_of hl0 hs0 (show ofF [] = 0 from rfl) hsl (fun x hx => ⟨(hss x hx).1, by have := (hss x hx).2; omega⟩) (fun x hx => by simp at hx)
 have hwl : ∀ i : Nat, i < l.length → (winsA s (l.getD i default)).length ≤ 1000000 := fun i hi => by
  have h1 := evAs_le s l (i + 1) 0
  have h2 := evAs_snoc s (l.take i) 0 (l.getD i default)
  rw [← take_snoc hi, List.length_take, show (0 : Int) + (min i l.length : Nat) = i by omega, show evA s i (l.getD i default) = (winsA s (l.getD i default)).flatMap (evV i) from rfl] at h2
  rw [h2, List.length_append, evV_len] at h1
  have h3 := hA.ev
  unfold evs0 at h3
  rw [List.length_append] at h3
  omega
 have hln := hA.al.len
 unfold C_asy
 simp (maxSteps := 1000000) (disch := omega) only [go_sem]
 refine callx_det hf1 rfl rfl ?_
 unfold strm
 simp (maxSteps := 1000000) (disch := omega) only [go_sem]
 refine callx_det hf1 rfl rfl ?_
 unfold strm
 simp (maxSteps := 1000000) (disch := omega) only [go_sem]
 refine callx_det hf2 rfl rfl ?_
 unfold strm
 simp (maxSteps := 1000000) (disch := omega) only [go_sem]
 refine callx_det hf2 rfl rfl ?_
 unfold strm
 simp (maxSteps := 1000000) (disch := omega) only [go_sem]
 refine callx_det hf3 rfl rfl ?_
 unfold strm
 simp (maxSteps := 1000000) (disch := omega) only [go_sem]
 refine callx_det hf3 rfl rfl ?_
 unfold strm
 simp (maxSteps := 1000000) (disch := omega) only [go_sem]
 refine ⟨rfl, CALLM_rnE ⟨[], [(5001, opRow a)]⟩ (.tu [.one (.ow 5001 0), iv 0]) (fun k => k) (Go.Ai.swp 5000 5001) (fun _ => rfl) (Go.Ai.swp_swp 5000 5001) (mrgN_fcm a hA.ac hA.sm3 (by omega)) (by simp) rfl rfl rfl rfl ⟨rfl, rfl⟩ ?_⟩
 simp (maxSteps := 1000000) (disch := omega) only [go_sem]
 have hlog := log_fcm l s a hA 0 200 (by omega)
 have hlo := Nat.le_trans (List.length_filter_le (inW 0 200) (runA l s a (200 - 1)).out) (hA.out (200 - 1))
 rw [show (runA l s a (200 - 1)).out.filter (inW 0 200) = lgF 0 200 (runA l s a (200 - 1)).out from rfl] at hlo
 generalize lgF 0 200 (runA l s a (200 - 1)).out = lg at *
 refine ⟨rfl, CALLM_rnE ⟨[], [(5002, stdRow lg)]⟩ (.tu [.one (.ow 5002 0), iv 0]) (fun k => k) (Go.Ai.swp 11 5002) (fun _ => rfl) (Go.Ai.swp_swp 11 5002) hlog (by simp) rfl rfl rfl rfl ⟨rfl, rfl⟩ ?_⟩
 simp (maxSteps := 1000000) (disch := omega) only [go_sem]
 have hig := ignored_fcm l s a hA
 have hil : (srtI (runA l s a 345686399999).ig).length ≤ 500000 := by rw [show (srtI (runA l s a 345686399999).ig).length = _ from List.length_mergeSort _]; exact runA_igl hA _
 generalize srtI (runA l s a 345686399999).ig = ig at *
 refine ⟨rfl, CALLM_rnE ⟨[], [(5003, ignRow ig)]⟩ (.tu [.one (.ow 5003 0), iv 0]) (fun k => k) (Go.Ai.swp 600021 5003) (fun _ => rfl) (Go.Ai.swp_swp 600021 5003) hig (by simp) rfl rfl rfl rfl ⟨rfl, rfl⟩ ?_⟩
 simp (maxSteps := 1000000) (disch := omega) only [go_sem]
 have hch := chat_fcm l s hA0 0 200 (by omega) hwl
 have hcl := chA_len s 0 200 l
 generalize chA s 0 200 l = ch at *
 refine ⟨rfl, CALLM_rnE ⟨[], [(5004, keyRow ch)]⟩ (.tu [.one (.ow 5004 0), iv 0]) (fun k => k) (Go.Ai.swp 13 5004) (fun _ => rfl) (Go.Ai.swp_swp 13 5004) hch (by simp) rfl rfl rfl rfl ⟨rfl, rfl⟩ ?_⟩
 simp (maxSteps := 1000000) (disch := omega) only [go_sem]
 have hal := hA.ac.len
 refine ex_loop2 (fun i m => as1St l s a lg ig ch i m) (fun i m => 0 ≤ i ∧ i ≤ a.length ∧ m.length = a.length) (fun i _ => (a.length - i).toNat) 0 a ⟨by omega, by omega, rfl⟩ rfl ?_
 rintro i m ⟨i0, i1, i2⟩
 unfold as1St
 by_cases hi : i < a.length
 ·have ei := getE_map_in oprS m i.toNat (by omega)
  simp (maxSteps := 1000000) (disch := omega) only [go_sem]
  exact ⟨i + 1, m.set i.toNat { m.getD i.toNat default with al := spoilt }, by simp only [opRow, List.map_set, oprS]; rfl, ⟨by omega, by omega, by rw [List.length_set]; exact i2⟩, by omega⟩
 simp (maxSteps := 1000000) (disch := omega) only [go_sem]
 refine ex_loop2 (fun i m => as2St l s a lg.length ig ch i m) (fun i m => 0 ≤ i ∧ i ≤ lg.length ∧ m.length = lg.length) (fun i _ => (lg.length - i).toNat) 0 lg ⟨by omega, by omega, rfl⟩ rfl ?_
 rintro j z ⟨j0, j1, j2⟩
 unfold as2St
 by_cases hj : j < lg.length
 ·have ei := getE_map_in stdS z j.toNat (by omega)
  simp (maxSteps := 1000000) (disch := omega) only [go_sem]
  exact ⟨j + 1, z.set j.toNat { z.getD j.toNat default with st := 777 }, by simp only [stdRow, List.map_set, stdS], ⟨by omega, by omega, by rw [List.length_set]; exact j2⟩, by omega⟩
 simp (maxSteps := 1000000) (disch := omega) only [go_sem]
 refine ⟨rfl, CALLM_rnE ⟨[], [(5003, nRow (spx 777 ig.length ig))]⟩ (.tu []) (fun k => k) (Go.Ai.swp 5003 1000000) (fun _ => rfl) (Go.Ai.swp_swp 5003 1000000) (spoI_fcm ig (by omega)) (by simp) rfl rfl rfl rfl ⟨rfl, rfl⟩ ?_⟩
 simp (maxSteps := 1000000) (disch := omega) only [go_sem]
 refine ⟨rfl, CALLM_rnE ⟨[], [(5004, keyRow (spx spoilt ch.length ch))]⟩ (.tu []) (fun k => k) (Go.Ai.swp 5004 1000000) (fun _ => rfl) (Go.Ai.swp_swp 5004 1000000) (spoN_fcm ch (by omega)) (by simp) rfl rfl rfl rfl ⟨rfl, rfl⟩ ?_⟩
 simp (maxSteps := 1000000) (disch := omega) only [go_sem]
 refine CALL_det (eqAlm_fc l (by omega)) (.inl rfl) ?_
 simp (maxSteps := 1000000) (disch := omega) only [go_sem]
 refine CALL_det (sameT_fc s (by have := hA.se.len; omega) (fun x hx => (hA.sm2 x hx).2)) (.inl rfl) ?_
 simp (maxSteps := 1000000) (disch := omega) only [go_sem]
 refine CALL_det (eqOpr_fc a (by omega)) (.inl rfl) ?_
 simp (maxSteps := 1000000) (disch := omega) only [go_sem]
 refine CALL_det ready_fc (.inl rfl) ?_
 simp (maxSteps := 1000000) (disch := omega) only [go_sem]
end Go.Proofs.YtcagelfmngmocaaGreatDoor

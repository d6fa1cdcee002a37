
/-
 ActsAreOne: the walk.
-/
import Derived.Test.YtcagelfmngmocaaGreatDoorAoe
import Derived.Test.YtcagelfmngmocaaGreatDoorHlf
import Derived.Test.YtcagelfmngmocaaGreatDoorMr2
import Derived.Test.YtcagelfmngmocaaGreatDoorAoj
import Derived.Test.YtcagelfmngmocaaGreatDoorIgn
namespace Go.Proofs.YtcagelfmngmocaaGreatDoor
open Go Go.Ai
set_option linter.unusedSimpArgs false
set_option linter.unusedVariables false
set_option maxHeartbeats 4000000
def C_aon : AC := (.seq (.reg false [gI 2 (.mv (.v (.bool false)))] (kP [0] [] []))
 (.seq (.reg false [gM 22 0,gI 23 (.build [(.slice none 0 0),(.int .i64 (0))] [(0,1,(.t 22))]),gI 24 (.box (.t 23)),gM 3 24] (kP [3,24] [24] []))
 (.seq (.reg false [gM 25 3,gI 26 (.callx (.f 7) [(.t 25)]),gM 27 3,gI 28 (.callx (.f 8) [(.t 27),(oI 8)]),gM 29 3,gI 30 (.callx (.f 9) [(.t 29)]),gM 31 3,gI 32 (.callx (.f 10) [(.t 31),(oI 0),(oI 150)]),gM 4 26,gM 5 28,gM 6 30,gM 7 32] (kP [3,4,5,6,7,24] [24] []))
 (.seq (.reg false [gM 34 3,gM 35 6,gI 36 (.callx (.f 23) [(.t 34),(.t 35)]),gM 33 36,gI 37 (.extr (.t 33) 0),gI 38 (.extr (.t 33) 1),gM 8 37,gM 9 38] (kP [4,5,6,7,8,9] [] []))
 (.seq (.reg false [gM 40 8,gM 41 9,gI 42 (.callm (.f 15) [(.t 40),(.t 41)] ⟨[],[],[],[5001],[]⟩),gM 39 42,gI 43 (.extr (.t 39) 0),gI 44 (.extr (.t 39) 1),gM 10 43,gM 11 44] (kP [4,5,6,7,8,9,10,11] [] []))
 (.seq (.reg false [gM 46 9,gM 47 8,gI 48 (.callm (.f 15) [(.t 46),(.t 47)] ⟨[],[],[],[5002],[]⟩),gM 45 48,gI 49 (.extr (.t 45) 0),gI 50 (.extr (.t 45) 1),gM 12 49,gM 13 50] (kP [4,5,6,7,10,11,12,13] [] []))
 (.seq (.seq (.reg false [gM 51 11,gI 52 (.bin .neq (.t 51) (oI 0)),gM 53 52,gG 54 53 false (.mv (.t 13)),gG 55 53 false (.bin .neq (.t 54) (oI 0)),gI 56 (.pick (.t 53) (.v (.bool true)) (.t 55)),gM 57 56,gG 58 57 false (.mv (.t 10)),gG 59 57 false (.mv (.t 6)),gG 60 57 false (.call (.f 22) [(.t 58),(.t 59)]),gG 61 57 false (.un .not (.t 60)),gI 62 (.pick (.t 57) (.v (.bool true)) (.t 61)),gM 63 62,gG 64 63 false (.mv (.t 12)),gG 65 63 false (.mv (.t 6)),gG 66 63 false (.call (.f 22) [(.t 64),(.t 65)]),gG 67 63 false (.un .not (.t 66)),gI 68 (.pick (.t 63) (.v (.bool true)) (.t 67))] (kP [4,5,6,7,68] [] []))
 (.cond (.t 68)
 (.seq (.reg false [gI 2 (.mv (.v (.bool false)))] (kP [2] [] []))
 .ret)
 .skip))
 (.seq (.reg false [gM 70 4,gM 71 5,gM 72 6,gI 73 (.callm (.f 16) [(.t 70),(.t 71),(.t 72)] ⟨[],[],[],[5003],[]⟩),gM 69 73,gI 74 (.extr (.t 69) 0),gI 75 (.extr (.t 69) 1),gM 14 74,gM 11 75] (kP [4,5,6,7,11,14] [] []))
 (.seq (.seq (.reg false [gM 76 11,gI 77 (.bin .neq (.t 76) (oI 0))] (kP [4,5,6,7,14,77] [] []))
 (.cond (.t 77)
 (.seq (.reg false [gI 2 (.mv (.v (.bool false)))] (kP [2] [] []))
 .ret)
 .skip))
 (.seq (.seq (.reg false [gI 15 (.mv (.v (.slice none 0 0)))] (kP [4,5,6,7,14,15] [] []))
 (.own 15 56 6))
 (.seq (.seq (.reg false [gM 78 6,gI 79 (.len (.t 78)),gI 80 (.mv (oI 0))] (kP [4,5,6,7,14,15,78,79,80] [] [15]))
 (.block 0 (.loop (.seq (.reg false [gI 81 (.bin .lss (.t 80) (.t 79))] (kP [4,5,6,7,14,15,78,79,80,81] [] [15]))
 (.seq (.cond (.t 81)
 .skip
 (.exit 0))
 (.seq (.block 1 (.seq (.reg false [gM 82 80,gI 83 (.iadr 6 (.t 78) (.t 80)),gI 84 (.load true 6 (.t 83)),gI 17 (.alloc [(.string (ByteArray.mk #[])),(.int .i64 (0)),(.int .i64 (0)),(.int .i64 (0)),(.string (ByteArray.mk #[])),(.int .i64 (0))]),gM 16 82,gN (.store 6 (.t 17) (.t 84))] (kP [4,5,6,7,14,15,16,17,78,79,80] [17] [15]))
 (.seq (.reg false [gM 85 14,gM 86 16,gI 87 (.call (.f 24) [(.t 85),(.t 86)]),gI 88 (.un .not (.t 87))] (kP [4,5,6,7,14,15,17,78,79,80,88] [17] [15]))
 (.cond (.t 88)
 (.reg false [gM 89 15,gI 90 (.load true 6 (.t 17)),gI 91 (.bslice 6 1 [(.t 90)]),gI 92 (.append 56 6 64 (.t 89) (.t 91)),gM 15 92] (kP [4,5,6,7,14,15,78,79,80] [] [15]))
 .skip))))
 (.reg false [gI 93 (.bin .add (.t 80) (oI 1)),gM 80 93] (kP [4,5,6,7,14,15,78,79,80] [] [15]))))))))
 (.seq (.reg false [gM 95 4,gM 96 5,gM 97 6,gM 98 7,gI 99 (.call (.f 13) [(.t 95),(.t 96),(.t 97),(.t 98)]),gM 94 99,gI 100 (.extr (.t 94) 0),gI 101 (.extr (.t 94) 1),gM 18 100,gM 11 101] (kP [4,5,7,11,15,18] [] []))
 (.seq (.reg false [gM 103 4,gM 104 5,gM 105 15,gM 106 7,gI 107 (.call (.f 13) [(.t 103),(.t 104),(.t 105),(.t 106)]),gM 102 107,gI 108 (.extr (.t 102) 0),gI 109 (.extr (.t 102) 1),gM 19 108,gM 13 109] (kP [4,5,11,13,15,18,19] [] []))
 (.seq (.reg false [gM 111 4,gM 112 5,gM 113 15,gI 114 (.callm (.f 16) [(.t 111),(.t 112),(.t 113)] ⟨[],[],[],[5004],[]⟩),gM 110 114,gI 115 (.extr (.t 110) 0),gI 116 (.extr (.t 110) 1),gM 20 115,gM 21 116] (kP [11,13,18,19,20,21] [] []))
 (.seq (.reg false [gM 117 11,gI 118 (.bin .eql (.t 117) (oI 0)),gM 119 118,gG 120 119 true (.mv (.t 13)),gG 121 119 true (.bin .eql (.t 120) (oI 0)),gI 122 (.pick (.t 119) (.t 121) (.v (.bool false))),gM 123 122,gG 124 123 true (.mv (.t 21)),gG 125 123 true (.bin .eql (.t 124) (oI 0)),gI 126 (.pick (.t 123) (.t 125) (.v (.bool false))),gM 127 126,gG 128 127 true (.mv (.t 18)),gG 129 127 true (.mv (.t 19)),gG 130 127 true (.call (.f 25) [(.t 128),(.t 129)]),gI 131 (.pick (.t 127) (.t 130) (.v (.bool false))),gM 132 131,gG 133 132 true (.mv (.t 20)),gG 134 132 true (.len (.t 133)),gG 135 132 true (.bin .eql (.t 134) (oI 0)),gI 136 (.pick (.t 132) (.t 135) (.v (.bool false))),gM 137 136,gG 138 137 true (.call (.f 14) []),gI 139 (.pick (.t 137) (.t 138) (.v (.bool false))),gM 2 139] (kP [2] [] []))
 .ret)))))))))))))))
theorem fc_aon : FcT Tryz.prog 5 Tryz.f5 C_aon [.t 2] := fc_mk [aN [0] [] [],aN [3,24] [24] [],aN [3,4,5,6,7,24] [24] [],aN [4,5,6,7,8,9] [] [],⟨(kP [4,5,6,7,8,9,10,11] [] []),[],[],[],[(42,⟨[],[],[],[5001],[]⟩)]⟩,⟨(kP [4,5,6,7,10,11,12,13] [] []),[],[],[],[(48,⟨[],[],[],[5002],[]⟩)]⟩,aN [4,5,6,7,68] [] [],aN [2] [] [],⟨(kP [4,5,6,7,11,14] [] []),[],[],[],[(73,⟨[],[],[],[5003],[]⟩)]⟩,aN [4,5,6,7,14,77] [] [],aN [2] [] [],⟨(kP [4,5,6,7,14,15] [] []),[(15,56,6)],[],[],[]⟩,aN [4,5,6,7,14,15,78,79,80] [] [15],aN [4,5,6,7,14,15,78,79,80,81] [] [15],aN [4,5,6,7,14,15,16,17,78,79,80] [17] [15],aN [4,5,6,7,14,15,17,78,79,80,88] [17] [15],aN [4,5,6,7,14,15,78,79,80] [] [15],aN [4,5,6,7,14,15,78,79,80] [] [15],aN [4,5,7,11,15,18] [] [],aN [4,5,11,13,15,18,19] [] [],⟨(kP [11,13,18,19,20,21] [] []),[],[],[],[(114,⟨[],[],[],[5004],[]⟩)]⟩,aN [2] [] []] Tryz.func5 (by kernel_rfl)
def gdT (B : List Int) (a : List Opr) (n : Nat) : List Opr := (kpt B n).map fun i => a.getD i default
theorem gdT_succ (B : List Int) (a : List Opr) (n : Nat) : gdT B a (n + 1) = if (n : Int) ∈ B then gdT B a n else gdT B a n ++ [a.getD n default] := by
 unfold gdT kpt
 rw [List.range_succ, List.filter_append, List.map_append]
 by_cases h : (n : Int) ∈ B
 ·rw [if_pos h]; simp [h]
 ·rw [if_neg h]; simp [h]
theorem gdT_len (B : List Int) (a : List Opr) (n : Nat) : (gdT B a n).length ≤ n := by
 unfold gdT kpt
 rw [List.length_map]
 exact Nat.le_trans (List.length_filter_le _ _) (by simp)
theorem range_getD (a : List Opr) : (List.range a.length).map (fun i => a.getD i default) = a := by
 refine List.ext_getElem (by simp) fun i h1 h2 => ?_
 simp [List.getD_eq_getElem?_getD, h2]
theorem gdA_sub (B : List Int) (a : List Opr) : (gdA B a).Sublist a := by
 have h : ((List.range a.length).filter fun (i : Nat) => decide ((i : Int) ∉ B)).Sublist (List.range a.length) := List.filter_sublist
 have := h.map (fun i => a.getD i default)
 rwa [range_getD] at this
def aonSt (l : List Alm) (s : List Ser) (a : List Opr) (at_ : Int) (ig : List Int) (i : Int) (m : List Opr) : AS := ⟨tabV [(4, alms true l), (5, sers true s), (6, oprs true a), (7, iv at_), (14, ints true ig), (15, .one (.ow 15 0)), (78, oprs true a), (79, iv a.length), (80, iv i)], tabO [], tabO [(15, opRow m)]⟩
set_option maxHeartbeats 4000000 in
theorem aon_fc (L : List Int) (hL : ∀ x ∈ L, I64 x) (hl : L.length ≤ 9223372036854775807) : FC Tryz.prog 5 none [ints false L] (fun _ r => r = bv true) := by
 refine fc_aon (by simp +arith) ?_
 obtain ⟨⟨p1, r1⟩, ⟨_, b1, l, hl0, hl3, hsl, rfl⟩, hf1⟩ := rightAlarms_det L 0 hL hl (by omega) (by omega)
 simp only at b1 hf1
 obtain ⟨⟨p2, r2⟩, ⟨c2, b2, s, hs0, hs2, hss, rfl⟩, hf2⟩ := rightTags_det 8 (by omega) (by omega) L p1 hL hl (by omega) (by omega)
 simp only at b2 c2 hf2
 obtain ⟨⟨p3, r3⟩, ⟨c3, b3, a, ha0, ha8, hsa, rfl⟩, hf3⟩ := rightActs_det L p2 hL hl (by omega) (by omega)
 simp only at b3 c3 hf3
 obtain ⟨⟨p4, r4⟩, ⟨c4, b4, at_, ht0, ht1, rfl⟩, hf4⟩ := range_det 0 150 (by omega) (by omega) (by omega) L p3 hL hl (by omega) (by omega)
 simp only at b4 c4 hf4
 have hA := allOk_of hl0 hs0 ha0 hsl (fun x hx => ⟨(hss x hx).1, by have := (hss x hx).2; omega⟩) hsa
 have hac := hA.ac
 unfold C_aon
 simp (maxSteps := 1000000) (disch := omega) only [go_sem]
 refine callx_det hf1 rfl rfl ?_
 unfold strm
 simp (maxSteps := 1000000) (disch := omega) only [go_sem]
 refine callx_det hf2 rfl rfl ?_
 unfold strm
 simp (maxSteps := 1000000) (disch := omega) only [go_sem]
 refine callx_det hf3 rfl rfl ?_
 unfold strm
 simp (maxSteps := 1000000) (disch := omega) only [go_sem]
 refine callx_det hf4 rfl rfl ?_
 unfold strm
 simp (maxSteps := 1000000) (disch := omega) only [go_sem]
 refine callx_gen (halfA_fc a (by omega)) hL hl (by omega) (by omega) ⟨_, _, _, hv_ex _ a rfl, rfl⟩ ?_
 rintro p5 r5 h5a h5b ⟨p, q, hv, rfl⟩
 refine ⟨rfl, ?_⟩
 unfold strm
 simp (maxSteps := 1000000) (disch := omega) only [go_sem]
 refine ⟨rfl, CALLM_rnE ⟨[], [(5001, opRow a)]⟩ (.tu [.one (.ow 5001 0), iv 0]) (fun k => k) (Go.Ai.swp 5000 5001) (fun _ => rfl) (Go.Ai.swp_swp 5000 5001) (mrgG_fcm a p q hv hac hsa (by omega)) (by simp) rfl rfl rfl rfl ⟨rfl, rfl⟩ ?_⟩
 simp (maxSteps := 1000000) (disch := omega) only [go_sem]
 refine ⟨rfl, CALLM_rnE ⟨[], [(5002, opRow a)]⟩ (.tu [.one (.ow 5002 0), iv 0]) (fun k => k) (Go.Ai.swp 5000 5002) (fun _ => rfl) (Go.Ai.swp_swp 5000 5002) (mrgG_fcm a q p hv.symm hac hsa (by omega)) (by simp) rfl rfl rfl rfl ⟨rfl, rfl⟩ ?_⟩
 simp (maxSteps := 1000000) (disch := omega) only [go_sem]
 refine CALL_det (eqOpr_fc a (by omega)) (.inl rfl) ?_
 simp (maxSteps := 1000000) (disch := omega) only [go_sem]
 refine CALL_det (eqOpr_fc a (by omega)) (.inl rfl) ?_
 simp (maxSteps := 1000000) (disch := omega) only [go_sem]
 have hig := ignored_fcm l s a hA
 have hil : (srtI (runA l s a 345686399999).ig).length ≤ 500000 := by rw [show (srtI (runA l s a 345686399999).ig).length = _ from List.length_mergeSort _]; exact runA_igl hA _
 have hmem : ∀ x, x ∈ srtI (runA l s a 345686399999).ig ↔ x ∈ (runA l s a 345686399999).ig := fun x => List.mem_mergeSort
 have hgr := fun to h => good_run hA.se hA.ac 345686399999 to h _ hmem
 generalize srtI (runA l s a 345686399999).ig = ig at *
 refine ⟨rfl, CALLM_rnE ⟨[], [(5003, ignRow ig)]⟩ (.tu [.one (.ow 5003 0), iv 0]) (fun k => k) (Go.Ai.swp 600021 5003) (fun _ => rfl) (Go.Ai.swp_swp 600021 5003) hig (by simp) rfl rfl rfl rfl ⟨rfl, rfl⟩ ?_⟩
 simp (maxSteps := 1000000) (disch := omega) only [go_sem]
 refine ex_loop2 (aonSt l s a at_ ig) (fun i m => 0 ≤ i ∧ i ≤ a.length ∧ m = gdT ig a i.toNat) (fun i _ => (a.length - i).toNat) 0 [] ⟨by omega, by omega, rfl⟩ rfl ?_
 rintro i m ⟨i0, i1, i2⟩
 unfold aonSt
 by_cases hi : i < a.length
 ·have em := getD_map_at oprS a i [] i0 hi
  have hc := contInts_fc false ig (by omega) i
  have hk := gdT_succ ig a i.toNat
  have hml := gdT_len ig a i.toNat
  rw [show i.toNat + 1 = (i + 1).toNat by omega, show ((i.toNat : Nat) : Int) = i by omega] at hk
  rw [← i2] at hk hml
  by_cases hb : i ∈ ig
  ·rw [decide_eq_true hb] at hc
   rw [if_pos hb] at hk
   simp (maxSteps := 1000000) (disch := omega) only [go_sem]
   refine CALL_det hc (.inl rfl) ?_
   simp (maxSteps := 1000000) (disch := omega) only [go_sem]
   exact ⟨i + 1, m, rfl, ⟨by omega, by omega, hk.symm⟩, by omega⟩
  ·rw [decide_eq_false hb] at hc
   rw [if_neg hb] at hk
   simp (maxSteps := 1000000) (disch := omega) only [go_sem]
   refine CALL_det hc (.inl rfl) ?_
   simp (maxSteps := 1000000) (disch := omega) only [go_sem]
   exact ⟨i + 1, m ++ [a.getD i.toNat default], by simp only [aonSt, opRow, List.map_append, List.map_cons, List.map_nil, oprS_eq], ⟨by omega, by omega, hk.symm⟩, by omega⟩
 ·have hmb : m = gdA ig a := by rw [i2, show i.toNat = a.length by omega]; rfl
  have hsb : m.Sublist a := by rw [hmb]; exact gdA_sub ig a
  clear i2
  obtain ⟨⟨_, g2, _⟩, _⟩ := hgr at_ (by omega)
  have g4 := (hgr 345686399999 (by omega)).2
  rw [← hmb] at g2 g4
  have hB : AllOk l s m := ⟨hA.al, hA.se, hac.sub hsb, hA.sm1, hA.sm2, fun x hx => hsa x (hsb.subset hx), by
   have h5 := evAs_len (m := 10) (fun x hx => by have := (hss x hx).2; omega) l 0
   have h6 := evBs_len l m 0
   have := hsb.length_le
   unfold evs0
   rw [List.length_append]; omega⟩
  have hst := standing_fc l s a hA at_ (by omega) (by omega) (fun z hz => by obtain ⟨i, _, _, _, h⟩ := hA.td at_ hz; omega)
  have hsu := standing_fc l s m hB at_ (by omega) (by omega) (fun z hz => by obtain ⟨i, _, _, _, h⟩ := hB.td at_ hz; omega)
  have hsl : (stnL l (runA l s a at_).td).length ≤ 1000000 := by
   unfold stnL
   rw [ssort_length]
   refine Nat.le_trans (List.length_filter_le _ _) ?_
   rw [(hA.lg at_).n]; omega
  rw [g2] at hsu
  have hin := ignored_fcm l s m hB
  rw [g4, show srtI ([] : List Int) = [] by simp [srtI]] at hin
  generalize stnL l (runA l s a at_).td = st at *
  simp (maxSteps := 1000000) (disch := omega) only [go_sem]
  refine CALL_det hst (.inl rfl) ?_
  simp (maxSteps := 1000000) (disch := omega) only [go_sem]
  refine CALL_det hsu (.inl rfl) ?_
  simp (maxSteps := 1000000) (disch := omega) only [go_sem]
  refine ⟨rfl, CALLM_rnE ⟨[], [(5004, ignRow [])]⟩ (.tu [.one (.ow 5004 0), iv 0]) (fun k => k) (Go.Ai.swp 600021 5004) (fun _ => rfl) (Go.Ai.swp_swp 600021 5004) hin (by simp) rfl rfl rfl rfl ⟨rfl, rfl⟩ ?_⟩
  simp (maxSteps := 1000000) (disch := omega) only [go_sem]
  refine CALL_det (eqStd_fc st hsl) (.inl rfl) ?_
  simp (maxSteps := 1000000) (disch := omega) only [go_sem]
  refine CALL_det ready_fc (.inl rfl) ?_
  simp (maxSteps := 1000000) (disch := omega) only [go_sem]
end Go.Proofs.YtcagelfmngmocaaGreatDoor

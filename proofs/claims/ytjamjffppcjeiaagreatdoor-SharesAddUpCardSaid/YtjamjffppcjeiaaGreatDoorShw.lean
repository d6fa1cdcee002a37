
/-
 SharesAddUp: the walk.
-/
import Derived.Test.YtjamjffppcjeiaaGreatDoorShz
import Derived.Test.YtjamjffppcjeiaaGreatDoorShs
import Derived.Test.YtjamjffppcjeiaaGreatDoorCln
import Derived.Test.YtjamjffppcjeiaaGreatDoorTgm
import Derived.Test.YtjamjffppcjeiaaGreatDoorAcb
namespace Go.Proofs.YtjamjffppcjeiaaGreatDoor
open Go Go.Ai
set_option linter.unusedSimpArgs false
set_option linter.unusedVariables false
set_option maxHeartbeats 4000000
def C_shr : AC := (.seq (.reg false [gI 2 (.mv (.v (.bool false)))] (kP [0] [] []))
 (.seq (.reg false [gM 19 0,gI 20 (.build [(.slice none 0 0),(.int .i64 (0))] [(0,1,(.t 19))]),gI 21 (.box (.t 20)),gM 3 21] (kP [3,21] [21] []))
 (.seq (.reg false [gM 22 3,gI 23 (.callx (.f 5) [(.t 22)]),gM 24 3,gI 25 (.bslice 1 5 [(.v (.string (ByteArray.mk #[98,49]))),(.v (.string (ByteArray.mk #[98,50]))),(.v (.string (ByteArray.mk #[98,51]))),(.v (.string (ByteArray.mk #[98,52]))),(.v (.string (ByteArray.mk #[98,53])))]),gI 26 (.callx (.f 6) [(.t 24),(.t 25)]),gM 4 23,gM 5 26] (kP [4,5] [] []))
 (.seq (.reg false [gM 28 4,gM 29 5,gI 30 (.callm (.f 7) [(.t 28),(.t 29)] ⟨[],[],[],[601],[]⟩),gM 27 30,gI 31 (.extr (.t 27) 0),gI 32 (.extr (.t 27) 1),gM 6 31,gM 7 32] (kP [4,5,6,7] [] []))
 (.seq (.seq (.reg false [gM 33 7,gI 34 (.bin .neq (.t 33) (oI 0))] (kP [4,5,6,34] [] []))
 (.cond (.t 34)
 (.seq (.reg false [gI 2 (.mv (.v (.bool false)))] (kP [2] [] []))
 .ret)
 .skip))
 (.seq (.reg false [gI 8 (.mv (oI 0)),gI 9 (.mv (oI 1))] (kP [4,5,6,8,9] [] []))
 (.seq (.seq (.reg false [gM 35 6,gI 36 (.callm (.f 8) [(.t 35)] ⟨[],[],[],[602],[]⟩),gM 37 5,gI 38 (.bslice 1 1 [(.t 37)]),gI 39 (.append 9 1 16 (.t 36) (.t 38)),gI 40 (.len (.t 39)),gI 41 (.mv (oI 0))] (kP [4,5,8,9,39,40,41] [] []))
 (.block 0 (.loop (.seq (.reg false [gI 42 (.bin .lss (.t 41) (.t 40))] (kP [4,5,8,9,39,40,41,42] [] []))
 (.seq (.cond (.t 42)
 .skip
 (.exit 0))
 (.seq (.block 1 (.seq (.reg false [gI 43 (.iadr 1 (.t 39) (.t 41)),gI 44 (.load false 1 (.t 43)),gM 11 44] (kP [4,5,8,9,11,39,40,41] [] []))
 (.seq (.reg false [gM 46 4,gM 47 11,gI 48 (.callm (.f 7) [(.t 46),(.t 47)] ⟨[],[],[],[603],[]⟩),gM 45 48,gI 49 (.extr (.t 45) 0),gI 50 (.extr (.t 45) 1),gM 12 49,gM 13 50] (kP [4,5,8,9,11,12,13,39,40,41] [] []))
 (.seq (.reg false [gM 52 4,gM 53 5,gM 54 11,gI 55 (.call (.f 9) [(.t 52),(.t 53),(.t 54)]),gM 51 55,gI 56 (.extr (.t 51) 0),gI 57 (.extr (.t 51) 1),gI 14 (.alloc [(.int .i64 (0)),(.int .i64 (0))]),gN (.store 2 (.t 14) (.t 56)),gM 15 57] (kP [4,5,8,9,11,12,13,14,15,39,40,41] [14] []))
 (.seq (.reg false [gM 59 4,gM 60 11,gI 61 (.call (.f 10) [(.t 59),(.t 60)]),gM 58 61,gI 62 (.extr (.t 58) 0),gI 63 (.extr (.t 58) 1),gM 16 62,gM 17 63] (kP [4,5,8,9,11,12,13,14,15,16,17,39,40,41] [14] []))
 (.seq (.seq (.reg false [gM 64 13,gI 65 (.bin .neq (.t 64) (oI 0)),gM 66 65,gG 67 66 false (.mv (.t 17)),gG 68 66 false (.bin .neq (.t 67) (oI 0)),gI 69 (.pick (.t 66) (.v (.bool true)) (.t 68)),gM 70 69,gG 71 70 false (.mv (.t 15)),gG 72 70 false (.bin .eql (.t 71) (oI 0)),gG 73 70 false (.mv (.t 72)),gG 74 73 true (.fadr 0 (.t 14)),gG 75 73 true (.load false 1 (.t 74)),gG 76 73 true (.bin .lss (.t 75) (oI 1)),gG 77 70 false (.pick (.t 73) (.t 76) (.v (.bool false))),gI 78 (.pick (.t 70) (.v (.bool true)) (.t 77)),gM 79 78,gG 80 79 false (.mv (.t 11)),gG 81 79 false (.mv (.t 5)),gG 82 79 false (.bin .neq (.t 80) (.t 81)),gG 83 79 false (.mv (.t 82)),gG 84 83 true (.mv (.t 16)),gG 85 83 true (.mv (.t 5)),gG 86 83 true (.call (.f 11) [(.t 84),(.t 85)]),gG 87 83 true (.un .not (.t 86)),gG 88 79 false (.pick (.t 83) (.t 87) (.v (.bool false))),gI 89 (.pick (.t 79) (.v (.bool true)) (.t 88))] (kP [4,5,8,9,12,14,15,39,40,41,89] [14] []))
 (.cond (.t 89)
 (.seq (.reg false [gI 2 (.mv (.v (.bool false)))] (kP [2] [] []))
 .ret)
 .skip))
 (.seq (.seq (.reg false [gM 90 15,gI 91 (.bin .neq (.t 90) (oI 0))] (kP [4,5,8,9,12,14,15,39,40,41,91] [14] []))
 (.cond (.t 91)
 (.seq (.reg false [gM 92 15,gI 93 (.bin .eql (.t 92) (oI 12)),gM 94 93,gG 95 94 true (.call (.f 12) []),gI 96 (.pick (.t 94) (.t 95) (.v (.bool false))),gM 2 96] (kP [2] [] []))
 .ret)
 .skip))
 (.seq (.reg false [gM 97 12,gI 98 (.len (.t 97)),gI 99 (.bin .eql (.t 98) (oI 0))] (kP [4,5,8,9,14,39,40,41,99] [14] []))
 (.cond (.t 99)
 (.seq (.reg false [gM 100 8,gI 101 (.fadr 1 (.t 14)),gI 102 (.load false 1 (.t 101)),gI 103 (.bin .mul (.t 100) (.t 102)),gI 104 (.fadr 0 (.t 14)),gI 105 (.load false 1 (.t 104)),gM 106 9,gI 107 (.bin .mul (.t 105) (.t 106)),gI 108 (.bin .add (.t 103) (.t 107)),gM 109 9,gI 110 (.fadr 1 (.t 14)),gI 111 (.load false 1 (.t 110)),gI 112 (.bin .mul (.t 109) (.t 111)),gI 113 (.call (.f 13) [(.t 108),(.t 112)]),gI 18 (.alloc [(.int .i64 (0)),(.int .i64 (0))]),gN (.store 2 (.t 18) (.t 113))] (kP [4,5,18,39,40,41] [18] []))
 (.reg true [gI 114 (.fadr 0 (.t 18)),gI 115 (.load false 1 (.t 114)),gI 116 (.fadr 1 (.t 18)),gI 117 (.load false 1 (.t 116)),gM 8 115,gM 9 117] (kP [4,5,8,9,39,40,41] [] [])))
 .skip)))))))))
 (.reg false [gI 118 (.bin .add (.t 41) (oI 1)),gM 41 118] (kP [4,5,8,9,39,40,41] [] []))))))))
 (.seq (.reg false [gM 119 8,gM 120 9,gI 121 (.bin .eql (.t 119) (.t 120)),gM 122 121,gG 123 122 true (.call (.f 12) []),gI 124 (.pick (.t 122) (.t 123) (.v (.bool false))),gM 2 124] (kP [2] [] []))
 .ret))))))))
theorem fc_shr : FcT Tryz.prog 3 Tryz.f3 C_shr [.t 2] := fc_mk [aN [0] [] [],aN [3,21] [21] [],aN [4,5] [] [],⟨(kP [4,5,6,7] [] []),[],[],[],[(30,⟨[],[],[],[601],[]⟩)]⟩,aN [4,5,6,34] [] [],aN [2] [] [],aN [4,5,6,8,9] [] [],⟨(kP [4,5,8,9,39,40,41] [] []),[],[],[],[(36,⟨[],[],[],[602],[]⟩)]⟩,aN [4,5,8,9,39,40,41,42] [] [],aN [4,5,8,9,11,39,40,41] [] [],⟨(kP [4,5,8,9,11,12,13,39,40,41] [] []),[],[],[],[(48,⟨[],[],[],[603],[]⟩)]⟩,aN [4,5,8,9,11,12,13,14,15,39,40,41] [14] [],aN [4,5,8,9,11,12,13,14,15,16,17,39,40,41] [14] [],aN [4,5,8,9,12,14,15,39,40,41,89] [14] [],aN [2] [] [],aN [4,5,8,9,12,14,15,39,40,41,91] [14] [],aN [2] [] [],aN [4,5,8,9,14,39,40,41,99] [14] [],aN [4,5,18,39,40,41] [18] [],aN [4,5,8,9,39,40,41] [] [],aN [4,5,8,9,39,40,41] [] [],aN [2] [] []] Tryz.func3 (by kernel_rfl)
def C_divisor2 : AC := (.seq (.reg false [gI 4 (.mv (oI 0))] (kP [0,1] [] []))
 (.seq (.block 0 (.loop (.seq (.seq (.reg false [gM 5 1,gI 6 (.bin .neq (.t 5) (oI 0))] (kP [0,1,6] [] []))
 (.cond (.t 6)
 .skip
 (.exit 0)))
 (.block 1 (.reg true [gM 7 1,gM 8 0,gM 9 1,gI 10 (.bin .rem (.t 8) (.t 9)),gM 0 7,gM 1 10] (kP [0,1] [] []))))))
 (.seq (.reg false [gM 11 0,gM 4 11] (kP [4] [] []))
 .ret)))
theorem fc_divisor2 : FcT Tryz.prog 39 Tryz.f39 C_divisor2 [.t 4] := fc_mk [aN [0,1] [] [],aN [0,1,6] [] [],aN [0,1] [] [],aN [4] [] []] Tryz.func39 (by kernel_rfl)
def C_lowest2 : AC := (.seq (.reg false [gI 4 (.alloc [(.int .i64 (0)),(.int .i64 (0))])] (kP [0,1,4] [4] []))
 (.seq (.reg false [gM 6 0,gM 7 0,gI 8 (.un .neg (.t 7)),gI 9 (.mnx true (.t 6) (.t 8)),gM 10 1,gI 11 (.call (.f 39) [(.t 9),(.t 10)]),gM 5 11] (kP [0,1,4,5] [4] []))
 (.seq (.reg true [gM 12 0,gM 13 5,gI 14 (.bin .quo (.t 12) (.t 13)),gM 15 1,gM 16 5,gI 17 (.bin .quo (.t 15) (.t 16)),gI 18 (.build [(.int .i64 (0)),(.int .i64 (0))] [(0,1,(.t 14)),(1,1,(.t 17))]),gN (.store 2 (.t 4) (.t 18))] (kP [4] [4] []))
 .ret)))
theorem fc_lowest2 : FcT Tryz.prog 13 Tryz.f13 C_lowest2 [.cell 4 true 2] := fc_mk [aN [0,1,4] [4] [],aN [0,1,4,5] [4] [],aN [4] [4] []] Tryz.func13 (by kernel_rfl)
section
variable {P : Program} {s : AS} {k : List KI} {kp : Option Keep} {l : List GI} {Q : AX → AS → Prop}
theorem CALLX_det {f : FuncId} {key : Nat} {cs0 cs : List Cel} {vargs : List Val} {d : Option Nat} {r : Val} (hf : FC P f (some cs0) vargs (fun cs' x => cs' = cs ∧ x = r)) (hr : dataRV r = true) (hc : cs.all dataRC = true)
  (h : rg P l kp k Q ({ s with bx := upd s.bx key (some cs) }.put d r)) : CALLX P f key cs0 vargs d l kp k Q s :=
 ⟨_, hf, ⟨cs, r, rfl, rfl⟩, fun _ _ hx => by obtain ⟨rfl, rfl⟩ := hx; exact ⟨hr, hc, h⟩⟩
end
theorem divisor_dv (a w : Int) (hw : w ≠ 0) (hd : w ∣ a) : FC Tryz.prog 39 none [iv a, iv w] (fun _ r => r = iv w) := by
 refine fc_divisor2 (by simp +arith) ?_
 unfold C_divisor2
 simp (maxSteps := 1000000) (disch := omega) only [go_sem]
 refine ex_loopI gcdSt (fun x => (x.1 = a ∧ x.2 = w) ∨ (x.1 = w ∧ x.2 = 0)) (fun x => if x.2 = 0 then 0 else 1) (a, w) (.inl ⟨rfl, rfl⟩) rfl ?_
 rintro ⟨x, y⟩ h
 simp only at h
 unfold gcdSt
 simp (maxSteps := 1000000) (disch := omega) only [go_sem]
 rcases h with ⟨rfl, rfl⟩ | ⟨rfl, rfl⟩
 ·refine ⟨fun h => ⟨h, (y, Int.tmod x y), .inr ⟨rfl, Int.tmod_eq_zero_of_dvd hd⟩, rfl, ?_⟩, fun h => absurd h (by omega)⟩
  simp only [Int.tmod_eq_zero_of_dvd hd, if_true, if_neg hw]; omega
 ·exact ⟨fun h => absurd rfl h, fun _ => rfl⟩
theorem lowest_same (w : Int) (h1 : -9223372036854775808 ≤ w) (h2 : w ≤ 9223372036854775807) (hw : w ≠ 0) : FC Tryz.prog 13 none [iv w, iv w] (fun _ r => r = .ag [.g (.int .i64 1), .g (.int .i64 1)]) := by
 refine fc_lowest2 (by simp +arith) ?_
 unfold C_lowest2
 have hd : w ∣ max w (IntKind.i64.wrap (0 - w)) := by
  by_cases c : w = -9223372036854775808
  ·subst c; rw [show IntKind.i64.wrap (0 - -9223372036854775808) = -9223372036854775808 from by rw [IntKind.wrap_i64]; omega, Int.max_self]; exact Int.dvd_refl _
  ·rw [show IntKind.i64.wrap (0 - w) = -w from by rw [IntKind.wrap_i64]; omega]
   rcases Int.le_total w (-w) with h | h
   ·rw [Int.max_eq_right h]; exact Int.dvd_neg.2 (Int.dvd_refl _)
   ·rw [Int.max_eq_left h]; exact Int.dvd_refl _
 have hq : w.tdiv w = 1 := Int.tdiv_self hw
 simp (maxSteps := 1000000) (disch := omega) only [go_sem]
 refine CALL_det (divisor_dv _ w hw hd) (.inl rfl) ?_
 simp (maxSteps := 1000000) (disch := omega) only [go_sem]
 rw [hq]
def shNum (l : List Trf) (b : ByteArray) (i : Int) : Int := if SC l b = 0 then 0 else lowN (pfS l b i.toNat) (SC l b)
def shDen (l : List Trf) (b : ByteArray) (i : Int) : Int := if SC l b = 0 then 1 else lowD (pfS l b i.toNat) (SC l b)
def shSt (l : List Trf) (b : ByteArray) (z : List ByteArray) (N D : Int → Int) (i : Int) : AS :=
 ⟨tabV [(4, trs true l), (5, sv b), (8, iv (N i)), (9, iv (D i)), (39, strs true z), (40, iv z.length), (41, iv i)], tabO [], tabO []⟩
theorem shNum_0 (l : List Trf) (b : ByteArray) (h : 0 ≤ SC l b) : shNum l b 0 = 0 := by
 unfold shNum
 split
 ·rfl
 ·rw [show (0 : Int).toNat = 0 from rfl, pfS_zero]; exact (low_zero (by omega)).1
theorem shDen_0 (l : List Trf) (b : ByteArray) (h : 0 ≤ SC l b) : shDen l b 0 = 1 := by
 unfold shDen
 split
 ·rfl
 ·rw [show (0 : Int).toNat = 0 from rfl, pfS_zero]; exact (low_zero (by omega)).2
theorem and_split {a b : Prop} (h1 : a) (h2 : b) : a ∧ b := ⟨h1, h2⟩
theorem b5_keys : ∀ b ∈ b5L, keyOk b = true := fun b hb => List.all_eq_true.1 (show (b5L.all keyOk) = true by kernel_rfl) b hb
set_option maxHeartbeats 4000000 in
set_option maxRecDepth 8000 in
theorem shr_fc (L : List Int) (hL : ∀ x ∈ L, I64 x) (hl : L.length ≤ 9223372036854775807) : FC Tryz.prog 3 none [ints false L] (fun _ r => r = bv true) := by
 obtain ⟨⟨p1, r1⟩, ⟨_, b1, l, hl0, hl20, hsh, rfl⟩, hf1⟩ := rightTr_det L 0 hL hl (by omega) (by omega)
 simp only at b1 hf1
 obtain ⟨⟨p2, r2⟩, ⟨c2, b2, b, hb, rfl⟩, hf2⟩ := some_det false b5L (by simp [b5L_len]) (by simp [b5L_len]) L p1 hL hl (by omega) (by omega)
 simp only at b2 c2 hf2
 refine fc_shr (by simp +arith) ?_
 have hf := flo_of hl0
 have hk := (trfOk_of hl0).key
 have hsm := shp_sm hsh
 have hk2 : ∀ x ∈ l, x.frm.size ≤ 1000000 ∧ x.to.size ≤ 1000000 := fun x hx => ⟨Nat.le_trans (hsm x hx).1 (by omega), Nat.le_trans (hsm x hx).2 (by omega)⟩
 have hbk := b5_keys b hb
 have hbs : b.size ≤ 1000000 := Nat.le_trans (bM_sm b (m7 (m6 hb))) (by omega)
 have hz : ∀ x ∈ zL l b, keyOk x = true ∧ x.size ≤ 1000000 := fun x hx => by
  rcases zL_mem hx with rfl | h
  ·exact ⟨hbk, hbs⟩
  ·obtain ⟨_, _, hy⟩ := ((srcL_mem _ _ _).1 h).last
   obtain ⟨t, ht, rfl⟩ := List.mem_map.1 hy
   have ht := (List.mem_filter.1 ht).1
   exact ⟨(hk t ht).1, (hk2 t ht).1⟩
 have hsl : ∀ x, (srcL l x).length ≤ 1000000 := fun x => by have := srcL_len l x; omega
 have hpl : ∀ x, (prdL l x).length ≤ 1000000 := fun x => by have := srcL_len (l.map Trf.inv) x; rw [List.length_map] at this; unfold prdL; omega
 unfold C_shr
 simp (maxSteps := 1000000) (disch := omega) only [go_sem]
 refine CALLX_det hf1 rfl rfl ?_
 unfold strm
 simp (maxSteps := 1000000) (disch := omega) only [go_sem]
 rw [eb5]
 refine CALLX_det hf2 rfl rfl ?_
 unfold strm
 simp (maxSteps := 1000000) (disch := omega) only [go_sem]
 refine ⟨rfl, CALLM_rnE ⟨[], [(601, sRow (srtS (srcL l b)))]⟩ (.tu [.one (.ow 601 0), iv 0]) (fun k => k) (Go.Ai.swp 600 601) (fun _ => rfl) (Go.Ai.swp_swp 600 601) (sources_fcm l b (by omega) hk2 hbs hl0 hbk (hsl b)) (by simp) rfl rfl rfl rfl ⟨rfl, rfl⟩ ?_⟩
 simp (maxSteps := 1000000) (disch := omega) only [go_sem]
 have hz20 : (srtS (srcL l b)).length ≤ 20 := by rw [srtS_len]; have := srcL_len l b; omega
 have hzl : (zL l b).length = (srtS (srcL l b)).length + 1 := by unfold zL; simp
 have hzm : (zL l b).map strC = (srtS (srcL l b)).map strC ++ [[.g (.string b)]] := by unfold zL; rw [List.map_append]; rfl
 have hbd := SC_bd hf _ b (Nat.lt_succ_self _)
 have hsN := shNum_0 l b hbd.1
 have hsD := shDen_0 l b hbd.1
 refine ⟨rfl, CALLM_rnE ⟨[], [(602, sRow (srtS (srcL l b)))]⟩ (.one (.ow 602 0)) (fun k => k) (Go.Ai.swp 600 602) (fun _ => rfl) (Go.Ai.swp_swp 600 602) (clone_fcm false (srtS (srcL l b)) (by omega)) (by simp) rfl rfl rfl rfl ⟨rfl, rfl⟩ ?_⟩
 simp (maxSteps := 1000000) (disch := omega) only [go_sem]
 rw [← hzm]
 have hs0 : ∀ n : Int, n = (zL l b).length → shSt l b (zL l b) (shNum l b) (shDen l b) 0 = ⟨tabV [(4, trs true l), (5, sv b), (8, iv 0), (9, iv 1), (39, strs true (zL l b)), (40, iv n), (41, iv 0)], tabO [], tabO []⟩ := fun n hn => by
  unfold shSt; rw [hsN, hsD, hn]
 refine ex_loop1 (shSt l b (zL l b) (shNum l b) (shDen l b)) (fun i => 0 ≤ i ∧ i ≤ (zL l b).length ∧ (SC l b = 0 → i = 0)) (fun i => ((zL l b).length - i).toNat) 0 ⟨by omega, by omega, fun _ => rfl⟩ (hs0 _ (by rw [List.length_map])).symm ?_
 have hz21 : (zL l b).length ≤ 21 := by omega
 clear hs0 hzm hz20
 rintro i ⟨g1, g2, g3⟩
 unfold shSt
 by_cases hi : i < (zL l b).length
 ·have hxm := getD_memB (zL l b) i.toNat (by omega)
  have hxk := hz _ hxm
  have hxz := zL_mem hxm
  have hst := pfS_step hl0 hsh hb (i := i.toNat)
  have hsu := pfS_succ l b (i := i.toNat) (by omega)
  have em := getD_str (zL l b) i g1 (by omega)
  simp (maxSteps := 1000000) (disch := omega) only [go_sem]
  generalize (zL l b).getD i.toNat default = x at *
  refine ⟨rfl, CALLM_rnE ⟨[], [(603, sRow (srtS (srcL l x)))]⟩ (.tu [.one (.ow 603 0), iv 0]) (fun k => k) (Go.Ai.swp 600 603) (fun _ => rfl) (Go.Ai.swp_swp 600 603) (sources_fcm l x (by omega) hk2 hxk.2 hl0 hxk.1 (hsl x)) (by simp) rfl rfl rfl rfl ⟨rfl, rfl⟩ ?_⟩
  simp (maxSteps := 1000000) (disch := omega) only [go_sem]
  refine CALL_det (pshare_fc l x b (by omega) hk2 hbs hxk.2 hl0 hbk hxk.1) (.inl rfl) ?_
  simp (maxSteps := 1000000) (disch := omega) only [go_sem]
  refine CALL_det (products_fc l x (by omega) hk2 hxk.2 hl0 hxk.1 (hpl x)) (.inl rfl) ?_
  by_cases hz : SC l b = 0
  ·rw [if_pos hz]
   simp (maxSteps := 1000000) (disch := omega) only [go_sem]
   refine and_split ?_ ?_
   ·intro hxb
    refine CALL_det (containsK_fc (srtS (prdL l x)) b (by rw [srtS_len]; exact hpl x)) (.inl rfl) ?_
    rw [decide_eq_true ((srtS_mem _ _).2 (prdL_mem (hxz.resolve_left hxb)))]
    simp (maxSteps := 1000000) (disch := omega) only [go_sem]
    refine CALL_det ready_fc (.inl rfl) ?_
    simp (maxSteps := 1000000) (disch := omega) only [go_sem]
   ·intro _
    refine CALL_det ready_fc (.inl rfl) ?_
    simp (maxSteps := 1000000) (disch := omega) only [go_sem]
  ·have hp : 0 < SC l b := by omega
   have hpt := PT_pos hf (x := x) _ b (Nat.lt_succ_self _) hp hxz
   have hptn := PT_bd hf x _ b (Nat.lt_succ_self _) hp
   have hsn : 1 ≤ shN l x b ∧ 1 ≤ shD l x b := by
    unfold shN shD
    rw [if_neg hz, if_neg hz]
    obtain ⟨g, g1, e1, e2, e3, e4, e5, e6⟩ := low_mul (n := PT l x b) (d := SC l b) (by omega) hp
    refine ⟨?_, e4⟩
    rcases Int.lt_or_le 0 (lowN (PT l x b) (SC l b)) with h | h
    ·omega
    ·rw [show lowN (PT l x b) (SC l b) = 0 by omega, Int.zero_mul] at e1; omega
   rw [if_neg hz]
   have hsN1 : ∀ j : Int, shNum l b j = lowN (pfS l b j.toNat) (SC l b) := fun j => if_neg hz
   have hsD1 : ∀ j : Int, shDen l b j = lowD (pfS l b j.toNat) (SC l b) := fun j => if_neg hz
   have hin : (i + 1).toNat = i.toNat + 1 := by omega
   by_cases hc : srcL l x = []
   ·have hlen : (srtS (srcL l x)).length = 0 := by rw [srtS_len, hc]; rfl
    rw [if_pos hc] at hsu
    have hL : FC Tryz.prog 13 none [iv (IntKind.i64.wrap (IntKind.i64.wrap (shNum l b i * shD l x b) + IntKind.i64.wrap (shN l x b * shDen l b i))), iv (IntKind.i64.wrap (shDen l b i * shD l x b))] (fun _ r => r = .ag [.g (.int .i64 (shNum l b (i + 1))), .g (.int .i64 (shDen l b (i + 1)))]) := by
     obtain ⟨s0, s1, s2, s3⟩ := hst hp (by omega) hc
     obtain ⟨a1, a2, a3, a4⟩ := low_add s0 (show 0 ≤ PT l x b by omega) hp
     have e1 : shN l x b = lowN (PT l x b) (SC l b) := if_neg hz
     have e2 : shD l x b = lowD (PT l x b) (SC l b) := if_neg hz
     rw [hsN1, hsD1, hsN1, hsD1, e1, e2, hin, hsu, wrap_add2]
     rw [← a3, ← a4]
     rcases low_step s0 s1 hp s2 hbd.2 s3 with ⟨b1, b2, b3, b4⟩ | ⟨c1, c2, c3⟩
     ·generalize lowN (pfS l b i.toNat) (SC l b) * lowD (PT l x b) (SC l b) = X at *
      generalize lowN (PT l x b) (SC l b) * lowD (pfS l b i.toNat) (SC l b) = Y at *
      generalize lowD (pfS l b i.toNat) (SC l b) * lowD (PT l x b) (SC l b) = Z at *
      rw [wrap_i64 (X + Y) (by omega) (by omega), wrap_i64 Z (by omega) (by omega)]
      exact lowest_fc (X + Y) Z (by omega) (by omega) (by omega)
     ·rw [c2]
      have hs := low_self a2
      rw [hs.1, hs.2]
      refine lowest_same _ ?_ ?_ c3
      ·rw [IntKind.wrap_i64]; omega
      ·rw [IntKind.wrap_i64]; omega
    clear hst hsu hsN1 hsD1 hptn hpt hbd hin hsN hsD hp
    simp (maxSteps := 1000000) (disch := omega) only [go_sem]
    refine and_split ?_ ?_
    ·intro hxb
     refine CALL_det (containsK_fc (srtS (prdL l x)) b (by rw [srtS_len]; exact hpl x)) (.inl rfl) ?_
     rw [decide_eq_true ((srtS_mem _ _).2 (prdL_mem (hxz.resolve_left hxb)))]
     simp (maxSteps := 1000000) (disch := omega) only [go_sem]
     refine CALL_det hL (.inl rfl) ?_
     simp (maxSteps := 1000000) (disch := omega) only [go_sem]
     exact ⟨i + 1, rfl, ⟨by omega, by omega, fun h => absurd h hz⟩, by omega⟩
    ·intro _
     refine CALL_det hL (.inl rfl) ?_
     simp (maxSteps := 1000000) (disch := omega) only [go_sem]
     exact ⟨i + 1, rfl, ⟨by omega, by omega, fun h => absurd h hz⟩, by omega⟩
   ·have hlen : (srtS (srcL l x)).length ≠ 0 := by rw [srtS_len]; exact fun h => hc (List.eq_nil_of_length_eq_zero h)
    rw [if_neg hc, Int.add_zero] at hsu
    have e8 : shNum l b (i + 1) = shNum l b i := by rw [hsN1, hsN1, hin, hsu]
    have e9 : shDen l b (i + 1) = shDen l b i := by rw [hsD1, hsD1, hin, hsu]
    clear hst hsu hsN1 hsD1 hptn hpt hbd hin hsN hsD hp
    simp (maxSteps := 1000000) (disch := omega) only [go_sem]
    refine and_split ?_ ?_
    ·intro hxb
     refine CALL_det (containsK_fc (srtS (prdL l x)) b (by rw [srtS_len]; exact hpl x)) (.inl rfl) ?_
     rw [decide_eq_true ((srtS_mem _ _).2 (prdL_mem (hxz.resolve_left hxb)))]
     simp (maxSteps := 1000000) (disch := omega) only [go_sem]
     exact ⟨i + 1, by simp only [shSt, e8, e9], ⟨by omega, by omega, fun h => absurd h hz⟩, by omega⟩
    ·intro _
     exact ⟨i + 1, by simp only [shSt, e8, e9], ⟨by omega, by omega, fun h => absurd h hz⟩, by omega⟩
 ·have hie : i.toNat = (zL l b).length := by omega
  have h1 : shNum l b i = shDen l b i := by
   have hz : SC l b ≠ 0 := fun h => by have := g3 h; omega
   have hp : 0 < SC l b := by omega
   unfold shNum shDen
   rw [hie, pfS_end hf hp, if_neg hz, if_neg hz, (low_self hp).1, (low_self hp).2]
  simp (maxSteps := 1000000) (disch := omega) only [go_sem]
  refine CALL_det ready_fc (.inl rfl) ?_
  simp (maxSteps := 1000000) (disch := omega) only [go_sem]
end Go.Proofs.YtjamjffppcjeiaaGreatDoor

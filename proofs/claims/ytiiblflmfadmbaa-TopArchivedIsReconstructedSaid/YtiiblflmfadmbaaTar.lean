
/-
 The walk of TopArchivedIsReconstructed.
-/
import Derived.Test.YtiiblflmfadmbaaBap
import Derived.Test.YtiiblflmfadmbaaBlg
import Derived.Test.YtiiblflmfadmbaaCmp
import Derived.Test.YtiiblflmfadmbaaTap
import Derived.Test.YtiiblflmfadmbaaFct
namespace Go.Proofs.Ytiiblflmfadmbaa
open Go Go.Ai
set_option linter.unusedSimpArgs false
set_option linter.unusedVariables false
set_option maxHeartbeats 4000000
def C_rightCurve : AC := (.seq (.reg false [gI 4 (.mv (.v (.slice none 0 0)))] (kP [0,1] [0] []))
 (.seq (.seq (.reg false [gI 6 (.mv (oI 0))] (kP [0,1,6] [0] []))
 (.block 0 (.loop (.seq (.reg false [gI 7 (.bin .lss (.t 6) (oI 6))] (kP [0,1,6,7] [0] []))
 (.seq (.cond (.t 7)
 .skip
 (.exit 0))
 (.seq (.block 1 (.seq (.reg false [gM 8 0,gM 9 1,gI 10 (.callx (.f 13) [(.t 8),(.t 9)]),gM 5 10] (kP [0,1,5,6] [0] []))
 (.seq (.reg false [gM 11 5,gI 12 (.call (.f 14) [(.t 11)]),gI 13 (.bin .eql (.t 12) (oI 0))] (kP [0,1,5,6,13] [0] []))
 (.cond (.t 13)
 (.seq (.reg false [gM 14 5,gM 4 14] (kP [4] [0] []))
 .ret)
 .skip))))
 (.reg false [gI 15 (.bin .add (.t 6) (oI 1)),gM 6 15] (kP [0,1,6] [0] []))))))))
 (.seq (.seq (.reg false [gI 4 (.mv (.v (.slice none 0 0)))] (kP [4] [0] []))
 (.ty 4 3))
 .ret)))
theorem fc_rightCurve : FcT Try.prog 4 Try.f4 C_rightCurve [.t 4] := fc_mk [aN [0,1] [0] [],aN [0,1,6] [0] [],aN [0,1,6,7] [0] [],aN [0,1,5,6] [0] [],aN [0,1,5,6,13] [0] [],aN [4] [0] [],aN [0,1,6] [0] [],⟨(kP [4] [0] []),[],[],[(4,3)],[]⟩] Try.func4 (by kernel_rfl)
def C_tar : AC := (.seq (.reg false [gI 2 (.mv (.v (.bool false)))] (kP [0] [] []))
 (.seq (.reg false [gM 17 0,gI 18 (.build [(.slice none 0 0),(.int .i64 (0))] [(0,1,(.t 17))]),gI 19 (.box (.t 18)),gM 3 19] (kP [3,19] [19] []))
 (.seq (.reg false [gM 20 3,gI 21 (.callx (.f 4) [(.t 20),(oI 14)]),gM 22 3,gI 23 (.callx (.f 5) [(.t 22),(oI 0),(oI 3)]),gM 4 21,gM 5 23] (kP [4,5] [] []))
 (.seq (.reg false [gM 25 5,gI 26 (.build [(.int .i64 (0)),(.int .i64 (0))] [(0,1,(.t 25)),(1,1,(oI 1000))]),gM 27 4,gI 28 (.call (.f 6) [(.t 26),(.t 27)]),gM 24 28,gI 29 (.extr (.t 24) 0),gI 30 (.extr (.t 24) 1),gM 6 29,gM 7 30] (kP [4,5,6,7] [] []))
 (.seq (.seq (.reg false [gM 31 7,gI 32 (.bin .neq (.t 31) (oI 0))] (kP [4,5,6,32] [] []))
 (.cond (.t 32)
 (.seq (.reg false [gI 2 (.mv (.v (.bool false)))] (kP [2] [] []))
 .ret)
 .skip))
 (.seq (.reg false [gM 34 4,gM 35 6,gI 36 (.call (.f 7) [(.t 34),(.t 35)]),gM 33 36,gI 37 (.extr (.t 33) 0),gI 38 (.extr (.t 33) 1),gM 8 37,gM 7 38] (kP [4,5,7,8] [] []))
 (.seq (.seq (.reg false [gM 39 7,gI 40 (.bin .neq (.t 39) (oI 0))] (kP [4,5,8,40] [] []))
 (.cond (.t 40)
 (.seq (.reg false [gI 2 (.mv (.v (.bool false)))] (kP [2] [] []))
 .ret)
 .skip))
 (.seq (.seq (.reg false [gM 41 8,gI 42 (.len (.t 41)),gI 43 (.bin .eql (.t 42) (oI 0))] (kP [4,5,8,43] [] []))
 (.cond (.t 43)
 (.seq (.reg false [gI 44 (.call (.f 8) []),gM 2 44] (kP [2] [] []))
 .ret)
 .skip))
 (.seq (.reg false [gM 46 8,gI 47 (.call (.f 9) [(.v (.slice none 0 0)),(.v (.string (ByteArray.mk #[116,97,103]))),(.t 46)]),gM 45 47,gI 48 (.extr (.t 45) 0),gI 49 (.extr (.t 45) 1),gM 9 48,gM 7 49] (kP [4,5,7,8,9] [] []))
 (.seq (.seq (.reg false [gM 50 7,gI 51 (.bin .neq (.t 50) (oI 0))] (kP [4,5,8,9,51] [] []))
 (.cond (.t 51)
 (.seq (.reg false [gI 2 (.mv (.v (.bool false)))] (kP [2] [] []))
 .ret)
 .skip))
 (.seq (.reg false [gM 53 9,gI 54 (.build [(.int .i64 (0)),(.int .i64 (0))] [(1,1,(oI 345686400000))]),gI 55 (.call (.f 10) [(.t 53),(.v (.string (ByteArray.mk #[116,97,103]))),(.t 54)]),gM 52 55,gI 56 (.extr (.t 52) 0),gI 57 (.extr (.t 52) 1),gM 10 56,gM 7 57] (kP [4,5,7,8,10] [] []))
 (.seq (.seq (.reg false [gM 58 7,gI 59 (.bin .neq (.t 58) (oI 0)),gM 60 59,gG 61 60 false (.mv (.t 10)),gG 62 60 false (.mv (.t 8)),gG 63 60 false (.call (.f 11) [(.t 61),(.t 62)]),gG 64 60 false (.un .not (.t 63)),gI 65 (.pick (.t 60) (.v (.bool true)) (.t 64))] (kP [4,5,10,65] [] []))
 (.cond (.t 65)
 (.seq (.reg false [gI 2 (.mv (.v (.bool false)))] (kP [2] [] []))
 .ret)
 .skip))
 (.seq (.seq (.reg false [gM 66 4,gI 67 (.len (.t 66)),gI 68 (.mv (oI 0))] (kP [5,10,66,67,68] [] []))
 (.block 0 (.loop (.seq (.reg false [gI 69 (.bin .lss (.t 68) (.t 67))] (kP [5,10,66,67,68,69] [] []))
 (.seq (.cond (.t 69)
 .skip
 (.exit 0))
 (.seq (.block 1 (.seq (.reg false [gI 70 (.iadr 3 (.t 66) (.t 68)),gI 71 (.load true 3 (.t 70)),gI 12 (.alloc [(.int .i64 (0)),(.int .i64 (0)),(.int .i64 (0))]),gN (.store 3 (.t 12) (.t 71))] (kP [5,10,12,66,67,68] [12] []))
 (.seq (.seq (.reg false [gI 72 (.fadr 2 (.t 12)),gI 73 (.load false 1 (.t 72)),gI 74 (.bin .eql (.t 73) (oI 2))] (kP [5,10,12,66,67,68,74] [12] []))
 (.cond (.t 74)
 (.exit 1)
 .skip))
 (.seq (.reg false [gM 76 10,gI 77 (.fadr 0 (.t 12)),gI 78 (.load false 1 (.t 77)),gI 79 (.call (.f 12) [(.t 76),(.t 78)]),gM 75 79,gI 80 (.extr (.t 75) 0),gI 81 (.extr (.t 75) 1),gI 82 (.extr (.t 75) 2),gI 13 (.alloc [(.int .i64 (0)),(.int .i64 (0))]),gN (.store 2 (.t 13) (.t 80)),gM 14 81,gM 15 82] (kP [5,10,12,13,14,15,66,67,68] [12,13] []))
 (.seq (.seq (.reg false [gM 83 15,gI 84 (.bin .neq (.t 83) (oI 0)),gM 85 84,gG 86 85 false (.mv (.t 14)),gG 87 85 false (.un .not (.t 86)),gI 88 (.pick (.t 85) (.v (.bool true)) (.t 87)),gM 89 88,gG 90 89 false (.fadr 1 (.t 13)),gG 91 89 false (.load false 1 (.t 90)),gG 92 89 false (.bin .lss (.t 91) (oI 1)),gI 93 (.pick (.t 89) (.v (.bool true)) (.t 92))] (kP [5,10,12,13,66,67,68,93] [12,13] []))
 (.cond (.t 93)
 (.seq (.reg false [gI 2 (.mv (.v (.bool false)))] (kP [2] [] []))
 .ret)
 .skip))
 (.seq (.reg false [gI 94 (.fadr 0 (.t 13)),gI 95 (.load false 1 (.t 94)),gI 96 (.fadr 1 (.t 12)),gI 97 (.load false 1 (.t 96)),gI 98 (.fadr 1 (.t 13)),gI 99 (.load false 1 (.t 98)),gI 100 (.bin .mul (.t 97) (.t 99)),gI 101 (.bin .sub (.t 95) (.t 100)),gM 16 101] (kP [5,10,13,16,66,67,68] [13] []))
 (.seq (.reg false [gM 102 16,gM 103 5,gI 104 (.fadr 1 (.t 13)),gI 105 (.load false 1 (.t 104)),gI 106 (.bin .mul (.t 103) (.t 105)),gI 107 (.bin .gtr (.t 102) (.t 106)),gM 108 107,gG 109 108 false (.mv (.t 16)),gG 110 108 false (.un .neg (.t 109)),gG 111 108 false (.mv (.t 5)),gG 112 108 false (.fadr 1 (.t 13)),gG 113 108 false (.load false 1 (.t 112)),gG 114 108 false (.bin .mul (.t 111) (.t 113)),gG 115 108 false (.bin .gtr (.t 110) (.t 114)),gI 116 (.pick (.t 108) (.v (.bool true)) (.t 115))] (kP [5,10,66,67,68,116] [] []))
 (.cond (.t 116)
 (.seq (.reg false [gI 2 (.mv (.v (.bool false)))] (kP [2] [] []))
 .ret)
 .skip))))))))
 (.reg false [gI 117 (.bin .add (.t 68) (oI 1)),gM 68 117] (kP [5,10,66,67,68] [] []))))))))
 (.seq (.reg false [gI 118 (.call (.f 8) []),gM 2 118] (kP [2] [] []))
 .ret))))))))))))))
theorem fc_tar : FcT Try.prog 3 Try.f3 C_tar [.t 2] := fc_mk [aN [0] [] [],aN [3,19] [19] [],aN [4,5] [] [],aN [4,5,6,7] [] [],aN [4,5,6,32] [] [],aN [2] [] [],aN [4,5,7,8] [] [],aN [4,5,8,40] [] [],aN [2] [] [],aN [4,5,8,43] [] [],aN [2] [] [],aN [4,5,7,8,9] [] [],aN [4,5,8,9,51] [] [],aN [2] [] [],aN [4,5,7,8,10] [] [],aN [4,5,10,65] [] [],aN [2] [] [],aN [5,10,66,67,68] [] [],aN [5,10,66,67,68,69] [] [],aN [5,10,12,66,67,68] [12] [],aN [5,10,12,66,67,68,74] [12] [],aN [5,10,12,13,14,15,66,67,68] [12,13] [],aN [5,10,12,13,66,67,68,93] [12,13] [],aN [2] [] [],aN [5,10,13,16,66,67,68] [13] [],aN [5,10,66,67,68,116] [] [],aN [2] [] [],aN [5,10,66,67,68] [] [],aN [2] [] []] Try.func3 (by kernel_rfl)
def rcSt (L : List Int) (most j q : Int) : AS := ⟨tabV [(0, .one (.bx 0 0)), (1, iv most), (6, iv j)], tabO [(0, strm L q)], tabO []⟩
theorem rightCurve_fc (most : Int) (hm : 0 ≤ most) (hm2 : most ≤ 1000) : Gen Try.prog 4 [iv most] 24000 (fun r => ∃ l : List Smp, serFault l = 0 ∧ l.length ≤ most ∧ r = smps true l) := by
 intro L p hL hl h0 hp
 refine fc_rightCurve (by simp +arith) ?_
 unfold C_rightCurve strm
 simp (maxSteps := 1000000) (disch := omega) only [go_sem]
 refine ex_loop2 (rcSt L most) (fun j q => 0 ≤ j ∧ j ≤ 6 ∧ p ≤ q ∧ q ≤ p + 4000 * j) (fun j _ => (6 - j).toNat) 0 p ⟨by omega, by omega, by omega, by omega⟩ rfl ?_
 rintro j q ⟨g1, g2, g3, g4⟩
 unfold rcSt strm
 by_cases hj : j < 6
 ·simp (maxSteps := 1000000) (disch := omega) only [go_sem]
  refine callx_gen (curve_fc most hm hm2) hL hl (by omega) (by omega) ⟨_, [], by simpa using hm, by simp, rfl⟩ ?_
  rintro q' r h1 h2 ⟨l, hll, hl64, rfl⟩
  refine ⟨rfl, ?_⟩
  unfold strm
  simp (maxSteps := 1000000) (disch := omega) only [go_sem]
  refine CALL_det (seriesFault_fc l (by omega)) (.inl rfl) ?_
  by_cases hs : serFault l = 0
  ·simp (maxSteps := 1000000) (disch := omega) only [go_sem]
   exact ⟨⟨q', by omega, by omega, rfl⟩, l, hs, hll, rfl⟩
  ·simp (maxSteps := 1000000) (disch := omega) only [go_sem]
   exact ⟨_, _, rfl, ⟨by omega, by omega, by omega, by omega⟩, by omega⟩
 ·simp (maxSteps := 1000000) (disch := omega) only [go_sem]
  exact ⟨⟨q, by omega, by omega, rfl⟩, [], rfl, by simpa using hm, rfl⟩
def tarSt (dv : Int) (c K : List Smp) (i : Int) : AS := ⟨tabV [(5, iv dv), (10, smps true K), (66, smps true c), (67, iv c.length), (68, iv i)], tabO [], tabO []⟩
theorem tgB_eq : ByteArray.mk #[116, 97, 103] = tgB := rfl
theorem kep_len (l : List Smp) (m : List Int) : (kep l m).length = m.length := by unfold kep; simp
theorem pw_up {K : List Smp} (hg : Good K) : K.Pairwise fun x y => x.a < y.a := by
 refine List.pairwise_iff_getElem.2 fun i j hi hj hij => ?_
 have := hg.up i j hij hj
 rwa [List.getD_eq_getElem?_getD, List.getD_eq_getElem?_getD, List.getElem?_eq_getElem hi, List.getElem?_eq_getElem hj] at this
theorem tar_fc (L : List Int) (hL : ∀ x ∈ L, I64 x) (hl : L.length ≤ 9223372036854775807) : FC Try.prog 3 none [ints false L] (fun _ r => r = bv true) := by
 refine fc_tar (by simp +arith) ?_
 unfold C_tar
 simp (maxSteps := 1000000) (disch := omega) only [go_sem]
 refine callx_gen (p := 0) (rightCurve_fc 14 (by omega) (by omega)) hL hl (by omega) (by omega) ⟨_, [], rfl, by simp, rfl⟩ ?_
 rintro pa r ha1 ha2 ⟨c, hs, hlm, rfl⟩
 refine ⟨rfl, ?_⟩
 unfold strm
 simp (maxSteps := 1000000) (disch := omega) only [go_sem]
 refine callx_gen (range_fc 0 3 (by omega) (by omega) (by omega)) hL hl (by omega) (by omega) ⟨_, 0, by omega, by omega, rfl⟩ ?_
 rintro pb r hab hbb ⟨zb, hzb, hyb, rfl⟩
 refine ⟨rfl, ?_⟩
 unfold strm
 simp (maxSteps := 1000000) (disch := omega) only [go_sem]
 have hg := good_of hs
 have hx : excF zb 1000 = 0 := by unfold excF; rw [if_pos (by omega)]
 refine CALL_det (compress_ok zb 1000 hx c hs) (.inl rfl) ?_
 have hkl := kptF_ok (cof_kpt (mg := 1000) hs (show 0 ≤ zb ∧ zb ≤ 2000000 by omega))
 have hks := kep_fault (cof_kpt (mg := 1000) hs (show 0 ≤ zb ∧ zb ≤ 2000000 by omega))
 have hkp := keepP_fc c (by omega) (cofSp zb 1000 c) (by omega)
 have hksp : kepSp c (cofSp zb 1000 c) = (kep c (cofSp zb 1000 c), 0) := by
  unfold kepSp; rw [cof_kpt (mg := 1000) hs (show 0 ≤ zb ∧ zb ≤ 2000000 by omega), if_neg (by omega)]
 rw [hksp] at hkp
 have hKl := kep_len c (cofSp zb 1000 c)
 have hin := fun h0 => arch_in (mg := 1000) hs (show 0 ≤ zb ∧ zb ≤ 2000000 by omega) h0
 have hkl2 := hkl.2.1
 clear hkl hksp
 have hne : c.length ≠ 0 → cofSp zb 1000 c ≠ [] := fun h0 => by
  obtain ⟨s, e, _⟩ := cof_chn (mg := 1000) hg (show 0 ≤ zb ∧ zb ≤ 2000000 by omega) h0
  rw [e]; simp
 simp (maxSteps := 1000000) (disch := omega) only [go_sem]
 refine CALL_det hkp (.inl rfl) ?_
 by_cases h0 : c.length = 0
 ·have e : (kep c (cofSp zb 1000 c)).length = 0 := by omega
  generalize kep c (cofSp zb 1000 c) = K at *
  simp (maxSteps := 1000000) (disch := omega) only [go_sem]
  refine CALL_det facts_fc (.inl rfl) ?_
  simp (maxSteps := 1000000) (disch := omega) only [go_sem]
 ·have e : (kep c (cofSp zb 1000 c)).length ≠ 0 := by
   have := hne h0
   rw [hKl]
   exact fun h => this (List.length_eq_zero_iff.1 h)
  have hin := hin h0
  have hKg := good_of hks
  have hKm : ∀ x ∈ kep c (cofSp zb 1000 c), okSmp x := fun x hx => by
   obtain ⟨i, hi, rfl⟩ := List.mem_iff_getElem.1 hx
   have := hKg.ok i hi
   rwa [List.getD_eq_getElem?_getD, List.getElem?_eq_getElem hi] at this
  have hpw := pw_up hKg
  have hKl2 : (kep c (cofSp zb 1000 c)).length ≤ 14 := by omega
  generalize kep c (cofSp zb 1000 c) = K at *
  have hap := Append_fc K hKm (by omega) (by omega) hks
  have hqu := Query_fc K hKm (by omega) (by omega) hks hpw
  have heq := eqSmp_fc false false K (by omega)
  clear hkp hne hKm hpw hx
  simp (maxSteps := 1000000) (disch := omega) only [go_sem]
  simp only [tgB_eq]
  refine CALL_det hap (.inl rfl) ?_
  generalize encS tgL false K = B at *
  simp (maxSteps := 1000000) (disch := omega) only [go_sem]
  refine CALL_det hqu (.inl rfl) ?_
  simp (maxSteps := 1000000) (disch := omega) only [go_sem]
  refine CALL_det heq (.inl rfl) ?_
  simp (maxSteps := 1000000) (disch := omega) only [go_sem]
  refine ex_loop1 (tarSt zb c K) (fun i => 0 ≤ i ∧ i ≤ c.length) (fun i => (c.length - i).toNat) 0 ⟨by omega, by omega⟩ rfl ?_
  rintro i ⟨g1, g2⟩
  unfold tarSt
  by_cases hi : i < c.length
  ·have hxm := getD_mem c i.toNat (by omega)
   have hxo := hg.ok i.toNat (by omega)
   have hx := hin _ hxm
   have hrc := reconstruct_fc K (by omega) (c.getD i.toNat default).a
   unfold okSmp at hxo
   by_cases hq : (c.getD i.toNat default).q = 2
   ·simp (maxSteps := 1000000) (disch := omega) only [go_sem]
    exact ⟨_, rfl, ⟨by omega, by omega⟩, by omega⟩
   ·obtain ⟨x1, x2, x3, x4, x5⟩ := hx hq
    generalize recoSp K (c.getD i.toNat default).a = R at *
    obtain ⟨⟨n, d⟩, b, e⟩ := R
    simp only [Prod.mk.injEq] at x1
    obtain ⟨rfl, rfl⟩ := x1
    simp only at x2 x3 x4 x5 hrc
    have m1 : -900000000000000000 ≤ (c.getD i.toNat default).v * d ∧ (c.getD i.toNat default).v * d ≤ 900000000000000000 := by
     have p1 := Int.mul_le_mul_of_nonneg_right (show (c.getD i.toNat default).v ≤ 1000000 by omega) (show 0 ≤ d by omega)
     have p2 := Int.mul_le_mul_of_nonneg_right (show -1000000 ≤ (c.getD i.toNat default).v by omega) (show 0 ≤ d by omega)
     omega
    have m2 : 0 ≤ zb * d ∧ zb * d ≤ 9000000000000 := by
     have p1 := Int.mul_le_mul_of_nonneg_right (show zb ≤ 3 by omega) (show 0 ≤ d by omega)
     have p2 := Int.mul_nonneg (show 0 ≤ zb by omega) (show 0 ≤ d by omega)
     omega
    clear hin hx hs hks hg
    simp (maxSteps := 1000000) (disch := omega) only [go_sem]
    refine CALL_det hrc (.inl rfl) ?_
    simp (maxSteps := 1000000) (disch := omega) only [go_sem]
    exact ⟨_, rfl, ⟨by omega, by omega⟩, by omega⟩
  ·simp (maxSteps := 1000000) (disch := omega) only [go_sem]
   refine CALL_det facts_fc (.inl rfl) ?_
   simp (maxSteps := 1000000) (disch := omega) only [go_sem]
end Go.Proofs.Ytiiblflmfadmbaa

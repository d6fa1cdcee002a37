
/-
 BatchesStay's function: what Overlaps, Sources and Profile hand back is new memory.
-/
import Derived.Test.YtjamjffppcjeiaaGreatDoorSou
import Derived.Test.YtjamjffppcjeiaaGreatDoorPrq
import Derived.Test.YtjamjffppcjeiaaGreatDoorTgl
import Derived.Test.YtjamjffppcjeiaaGreatDoorAcb
namespace Go.Proofs.YtjamjffppcjeiaaGreatDoor
open Go Go.Ai
set_option linter.unusedSimpArgs false
set_option linter.unusedVariables false
set_option maxHeartbeats 4000000
def C_eqSmp : AC := (.seq (.reg false [gI 4 (.mv (.v (.bool false)))] (kP [0,1] [] []))
 (.seq (.seq (.reg false [gM 6 0,gI 7 (.len (.t 6)),gM 8 1,gI 9 (.len (.t 8)),gI 10 (.bin .neq (.t 7) (.t 9))] (kP [0,1,10] [] []))
 (.cond (.t 10)
 (.seq (.reg false [gI 4 (.mv (.v (.bool false)))] (kP [4] [] []))
 .ret)
 .skip))
 (.seq (.seq (.reg false [gM 11 0,gI 12 (.len (.t 11)),gI 13 (.mv (oI 0))] (kP [0,1,12,13] [] []))
 (.block 0 (.loop (.seq (.reg false [gI 14 (.bin .lss (.t 13) (.t 12))] (kP [0,1,12,13,14] [] []))
 (.seq (.cond (.t 14)
 .skip
 (.exit 0))
 (.seq (.block 1 (.seq (.reg false [gM 15 13,gM 5 15] (kP [0,1,5,12,13] [] []))
 (.seq (.reg true [gM 16 0,gM 17 5,gI 18 (.iadr 3 (.t 16) (.t 17)),gI 19 (.load true 3 (.t 18)),gM 20 1,gM 21 5,gI 22 (.iadr 3 (.t 20) (.t 21)),gI 23 (.load true 3 (.t 22)),gI 24 (.eqs true true [.i .i64,.i .i64,.i .i64] (.t 19) (.t 23))] (kP [0,1,12,13,24] [] []))
 (.cond (.t 24)
 (.seq (.reg false [gI 4 (.mv (.v (.bool false)))] (kP [4] [] []))
 .ret)
 .skip))))
 (.reg false [gI 25 (.bin .add (.t 13) (oI 1)),gM 13 25] (kP [0,1,12,13] [] []))))))))
 (.seq (.reg false [gI 4 (.mv (.v (.bool true)))] (kP [4] [] []))
 .ret))))
theorem fc_eqSmp : FcT Tryz.prog 21 Tryz.f21 C_eqSmp [.t 4] := fc_mk [aN [0,1] [] [],aN [0,1,10] [] [],aN [4] [] [],aN [0,1,12,13] [] [],aN [0,1,12,13,14] [] [],aN [0,1,5,12,13] [] [],aN [0,1,12,13,24] [] [],aN [4] [] [],aN [0,1,12,13] [] [],aN [4] [] []] Tryz.func21 (by kernel_rfl)
def C_eqTrf : AC := (.seq (.reg false [gI 4 (.mv (.v (.bool false)))] (kP [0,1] [] []))
 (.seq (.seq (.reg false [gM 6 0,gI 7 (.len (.t 6)),gM 8 1,gI 9 (.len (.t 8)),gI 10 (.bin .neq (.t 7) (.t 9))] (kP [0,1,10] [] []))
 (.cond (.t 10)
 (.seq (.reg false [gI 4 (.mv (.v (.bool false)))] (kP [4] [] []))
 .ret)
 .skip))
 (.seq (.seq (.reg false [gM 11 0,gI 12 (.len (.t 11)),gI 13 (.mv (oI 0))] (kP [0,1,12,13] [] []))
 (.block 0 (.loop (.seq (.reg false [gI 14 (.bin .lss (.t 13) (.t 12))] (kP [0,1,12,13,14] [] []))
 (.seq (.cond (.t 14)
 .skip
 (.exit 0))
 (.seq (.block 1 (.seq (.reg false [gM 15 13,gM 5 15] (kP [0,1,5,12,13] [] []))
 (.seq (.reg true [gM 16 0,gM 17 5,gI 18 (.iadr 3 (.t 16) (.t 17)),gI 19 (.load true 3 (.t 18)),gM 20 1,gM 21 5,gI 22 (.iadr 3 (.t 20) (.t 21)),gI 23 (.load true 3 (.t 22)),gI 24 (.eqs true true [.s,.s,.i .i64] (.t 19) (.t 23))] (kP [0,1,12,13,24] [] []))
 (.cond (.t 24)
 (.seq (.reg false [gI 4 (.mv (.v (.bool false)))] (kP [4] [] []))
 .ret)
 .skip))))
 (.reg false [gI 25 (.bin .add (.t 13) (oI 1)),gM 13 25] (kP [0,1,12,13] [] []))))))))
 (.seq (.reg false [gI 4 (.mv (.v (.bool true)))] (kP [4] [] []))
 .ret))))
theorem fc_eqTrf : FcT Tryz.prog 23 Tryz.f23 C_eqTrf [.t 4] := fc_mk [aN [0,1] [] [],aN [0,1,10] [] [],aN [4] [] [],aN [0,1,12,13] [] [],aN [0,1,12,13,14] [] [],aN [0,1,5,12,13] [] [],aN [0,1,12,13,24] [] [],aN [4] [] [],aN [0,1,12,13] [] [],aN [4] [] []] Tryz.func23 (by kernel_rfl)
def C_spoI : AC := (.seq (.reg false [gM 3 0,gI 4 (.len (.t 3)),gI 5 (.mv (oI 0))] (kP [0,4,5] [] [1000000]))
 (.block 0 (.loop (.seq (.reg false [gI 6 (.bin .lss (.t 5) (.t 4))] (kP [0,4,5,6] [] [1000000]))
 (.seq (.cond (.t 6)
 .skip
 (.exit 0))
 (.seq (.block 1 (.seq (.reg false [gM 7 5,gM 2 7] (kP [0,2,4,5] [] [1000000]))
 (.reg false [gM 8 0,gM 9 2,gI 10 (.iadr 1 (.t 8) (.t 9)),gN (.store 1 (.t 10) (oI 777))] (kP [0,4,5] [] [1000000]))))
 (.reg false [gI 11 (.bin .add (.t 5) (oI 1)),gM 5 11] (kP [0,4,5] [] [1000000]))))))))
theorem fcm_spoI : FmT Tryz.prog 20 Tryz.f20 C_spoI [] := fcm_mk [aN [0,4,5] [] [1000000],aN [0,4,5,6] [] [1000000],aN [0,2,4,5] [] [1000000],aN [0,4,5] [] [1000000],aN [0,4,5] [] [1000000]] Tryz.func20 (by kernel_rfl)
def C_spoN : AC := (.seq (.reg false [gM 3 0,gI 4 (.len (.t 3)),gI 5 (.mv (oI 0))] (kP [0,4,5] [] [1000000]))
 (.block 0 (.loop (.seq (.reg false [gI 6 (.bin .lss (.t 5) (.t 4))] (kP [0,4,5,6] [] [1000000]))
 (.seq (.cond (.t 6)
 .skip
 (.exit 0))
 (.seq (.block 1 (.seq (.reg false [gM 7 5,gM 2 7] (kP [0,2,4,5] [] [1000000]))
 (.reg false [gM 8 0,gM 9 2,gI 10 (.iadr 1 (.t 8) (.t 9)),gN (.store 1 (.t 10) (.v (.string (ByteArray.mk #[115,112,111,105,108,116]))))] (kP [0,4,5] [] [1000000]))))
 (.reg false [gI 11 (.bin .add (.t 5) (oI 1)),gM 5 11] (kP [0,4,5] [] [1000000]))))))))
theorem fcm_spoN : FmT Tryz.prog 19 Tryz.f19 C_spoN [] := fcm_mk [aN [0,4,5] [] [1000000],aN [0,4,5,6] [] [1000000],aN [0,2,4,5] [] [1000000],aN [0,4,5] [] [1000000],aN [0,4,5] [] [1000000]] Tryz.func19 (by kernel_rfl)
def C_bat : AC := (.seq (.reg false [gI 2 (.mv (.v (.bool false)))] (kP [0] [] []))
 (.seq (.reg false [gM 20 0,gI 21 (.build [(.slice none 0 0),(.int .i64 (0))] [(0,1,(.t 20))]),gI 22 (.box (.t 21)),gM 23 0,gI 24 (.build [(.slice none 0 0),(.int .i64 (0))] [(0,1,(.t 23))]),gI 25 (.box (.t 24)),gM 3 22,gM 4 25] (kP [3,4,22,25] [22,25] []))
 (.seq (.reg false [gM 26 3,gI 27 (.callx (.f 14) [(.t 26),(oI 10)]),gM 28 4,gI 29 (.callx (.f 14) [(.t 28),(oI 10)]),gM 5 27,gM 6 29] (kP [3,4,5,6,22,25] [22,25] []))
 (.seq (.reg false [gM 30 3,gI 31 (.callx (.f 15) [(.t 30)]),gM 32 4,gI 33 (.callx (.f 15) [(.t 32)]),gM 7 31,gM 8 33] (kP [3,4,5,6,7,8,22,25] [22,25] []))
 (.seq (.reg false [gM 34 3,gI 35 (.callx (.f 5) [(.t 34)]),gM 36 4,gI 37 (.callx (.f 5) [(.t 36)]),gM 9 35,gM 10 37] (kP [5,6,7,8,9,10] [] []))
 (.seq (.seq (.reg false [gM 38 8,gI 39 (.call (.f 16) [(.t 38)]),gI 40 (.bin .neq (.t 39) (oI 0))] (kP [5,6,7,8,9,10,40] [] []))
 (.cond (.t 40)
 (.seq (.reg false [gI 41 (.call (.f 12) []),gM 2 41] (kP [2] [] []))
 .ret)
 .skip))
 (.seq (.reg false [gM 43 7,gM 44 7,gI 45 (.callm (.f 17) [(.t 43),(.t 44)] ⟨[],[],[],[501],[]⟩),gM 42 45,gI 46 (.extr (.t 42) 0),gI 47 (.extr (.t 42) 1),gI 48 (.extr (.t 42) 2),gM 11 46,gM 12 47,gM 13 48] (kP [5,6,7,8,9,10,11,13] [] [501]))
 (.seq (.reg false [gM 50 9,gI 51 (.callm (.f 7) [(.t 50),(.v (.string (ByteArray.mk #[98,53])))] ⟨[],[],[],[502],[]⟩),gM 49 51,gI 52 (.extr (.t 49) 0),gI 53 (.extr (.t 49) 1),gM 14 52,gM 15 53] (kP [5,6,7,8,9,10,11,13,14,15] [] [501,502]))
 (.seq (.reg false [gM 55 5,gI 56 (.build [(.int .i64 (0)),(.int .i64 (0))] [(0,1,(oI 0)),(1,1,(oI 40))]),gI 57 (.callm (.f 18) [(.t 55),(.t 56),(oI 4)] ⟨[],[],[],[503],[]⟩),gM 54 57,gI 58 (.extr (.t 54) 0),gI 59 (.extr (.t 54) 1),gI 60 (.extr (.t 54) 2),gM 16 58,gM 17 59,gM 18 60] (kP [5,6,7,8,9,10,11,13,14,15,16,18] [] [501,502,503]))
 (.seq (.seq (.reg false [gM 61 13,gI 62 (.bin .neq (.t 61) (oI 0)),gM 63 62,gG 64 63 false (.mv (.t 15)),gG 65 63 false (.bin .neq (.t 64) (oI 0)),gI 66 (.pick (.t 63) (.v (.bool true)) (.t 65)),gM 67 66,gG 68 67 false (.mv (.t 18)),gG 69 67 false (.bin .neq (.t 68) (oI 0)),gI 70 (.pick (.t 67) (.v (.bool true)) (.t 69))] (kP [5,6,7,8,9,10,11,14,16,70] [] [501,502,503]))
 (.cond (.t 70)
 (.seq (.reg false [gI 2 (.mv (.v (.bool false)))] (kP [2] [] []))
 .ret)
 .skip))
 (.seq (.seq (.reg false [gM 71 11,gI 72 (.len (.t 71)),gI 73 (.mv (oI 0))] (kP [5,6,7,8,9,10,11,14,16,72,73] [] [501,502,503]))
 (.block 0 (.loop (.seq (.reg false [gI 74 (.bin .lss (.t 73) (.t 72))] (kP [5,6,7,8,9,10,11,14,16,72,73,74] [] [501,502,503]))
 (.seq (.cond (.t 74)
 .skip
 (.exit 0))
 (.seq (.block 1 (.seq (.reg false [gM 75 73,gM 19 75] (kP [5,6,7,8,9,10,11,14,16,19,72,73] [] [501,502,503]))
 (.reg false [gM 76 11,gM 77 19,gI 78 (.iadr 2 (.t 76) (.t 77)),gI 79 (.fadr 1 (.t 78)),gN (.store 1 (.t 79) (oI 777))] (kP [5,6,7,8,9,10,11,14,16,72,73] [] [501,502,503]))))
 (.reg false [gI 80 (.bin .add (.t 73) (oI 1)),gM 73 80] (kP [5,6,7,8,9,10,11,14,16,72,73] [] [501,502,503]))))))))
 (.seq (.reg false [gM 81 14,gI 82 (.callm (.f 19) [(.t 81)] ⟨[],[502],[],[502],[]⟩)] (kP [5,6,7,8,9,10,16] [] [503]))
 (.seq (.reg false [gM 83 16,gI 84 (.callm (.f 20) [(.t 83)] ⟨[],[503],[],[503],[]⟩)] (kP [5,6,7,8,9,10] [] []))
 (.seq (.reg false [gM 85 5,gM 86 6,gI 87 (.call (.f 21) [(.t 85),(.t 86)]),gM 88 87,gG 89 88 true (.mv (.t 7)),gG 90 88 true (.mv (.t 8)),gG 91 88 true (.call (.f 22) [(.t 89),(.t 90)]),gI 92 (.pick (.t 88) (.t 91) (.v (.bool false))),gM 93 92,gG 94 93 true (.mv (.t 9)),gG 95 93 true (.mv (.t 10)),gG 96 93 true (.call (.f 23) [(.t 94),(.t 95)]),gI 97 (.pick (.t 93) (.t 96) (.v (.bool false))),gM 98 97,gG 99 98 true (.call (.f 12) []),gI 100 (.pick (.t 98) (.t 99) (.v (.bool false))),gM 2 100] (kP [2] [] []))
 .ret))))))))))))))
theorem fc_bat : FcT Tryz.prog 4 Tryz.f4 C_bat [.t 2] := fc_mk [aN [0] [] [],aN [3,4,22,25] [22,25] [],aN [3,4,5,6,22,25] [22,25] [],aN [3,4,5,6,7,8,22,25] [22,25] [],aN [5,6,7,8,9,10] [] [],aN [5,6,7,8,9,10,40] [] [],aN [2] [] [],⟨(kP [5,6,7,8,9,10,11,13] [] [501]),[],[],[],[(45,⟨[],[],[],[501],[]⟩)]⟩,⟨(kP [5,6,7,8,9,10,11,13,14,15] [] [501,502]),[],[],[],[(51,⟨[],[],[],[502],[]⟩)]⟩,⟨(kP [5,6,7,8,9,10,11,13,14,15,16,18] [] [501,502,503]),[],[],[],[(57,⟨[],[],[],[503],[]⟩)]⟩,aN [5,6,7,8,9,10,11,14,16,70] [] [501,502,503],aN [2] [] [],aN [5,6,7,8,9,10,11,14,16,72,73] [] [501,502,503],aN [5,6,7,8,9,10,11,14,16,72,73,74] [] [501,502,503],aN [5,6,7,8,9,10,11,14,16,19,72,73] [] [501,502,503],aN [5,6,7,8,9,10,11,14,16,72,73] [] [501,502,503],aN [5,6,7,8,9,10,11,14,16,72,73] [] [501,502,503],⟨(kP [5,6,7,8,9,10,16] [] [503]),[],[],[],[(82,⟨[],[502],[],[502],[]⟩)]⟩,⟨(kP [5,6,7,8,9,10] [] []),[],[],[],[(84,⟨[],[503],[],[503],[]⟩)]⟩,aN [2] [] []] Tryz.func4 (by kernel_rfl)
def eqSSt (fr fr' : Bool) (l : List Smp) (i : Int) : AS := ⟨tabV [(0, smps fr l), (1, smps fr' l), (12, iv l.length), (13, iv i)], tabO [], tabO []⟩
theorem eqSmp_fc (fr fr' : Bool) (l : List Smp) (hl : l.length ≤ 4611686018427387904) : FC Tryz.prog 21 none [smps fr l, smps fr' l] (fun _ r => r = bv true) := by
 refine fc_eqSmp (by simp +arith) ?_
 unfold C_eqSmp
 simp (maxSteps := 1000000) (disch := omega) only [go_sem]
 refine ex_loop1 (eqSSt fr fr' l) (fun i => 0 ≤ i ∧ i ≤ l.length) (fun i => (l.length - i).toNat) 0 ⟨by omega, by omega⟩ rfl ?_
 rintro i ⟨g1, g2⟩
 unfold eqSSt
 by_cases hi : i < l.length
 ·simp (maxSteps := 1000000) (disch := omega) only [go_sem]
  exact ⟨_, rfl, ⟨by omega, by omega⟩, by omega⟩
 ·simp (maxSteps := 1000000) (disch := omega) only [go_sem]
section
variable {P : Program} {Q : AX → AS → Prop} {s : AS} {k : List KI} {kp : Option Keep} {l : List GI}
theorem CALLX_det {f : FuncId} {key : Nat} {cs0 cs : List Cel} {vargs : List Val} {d : Option Nat} {r : Val} (hf : FC P f (some cs0) vargs (fun cs' x => cs' = cs ∧ x = r)) (hr : dataRV r = true) (hc : cs.all dataRC = true)
  (h : rg P l kp k Q ({ s with bx := upd s.bx key (some cs) }.put d r)) : CALLX P f key cs0 vargs d l kp k Q s :=
 ⟨_, hf, ⟨cs, r, rfl, rfl⟩, fun _ _ hx => by obtain ⟨rfl, rfl⟩ := hx; exact ⟨hr, hc, h⟩⟩
end
def eqTSt (l : List Trf) (i : Int) : AS := ⟨tabV [(0, trs false l), (1, trs false l), (12, iv l.length), (13, iv i)], tabO [], tabO []⟩
theorem eqTrf_fc (l : List Trf) (hl : l.length ≤ 1000000) : FC Tryz.prog 23 none [trs false l, trs false l] (fun _ r => r = bv true) := by
 refine fc_eqTrf (by simp +arith) ?_
 unfold C_eqTrf
 simp (maxSteps := 1000000) (disch := omega) only [go_sem]
 refine ex_loop1 (eqTSt l) (fun i => 0 ≤ i ∧ i ≤ l.length) (fun i => (l.length - i).toNat) 0 ⟨by omega, by omega⟩ rfl ?_
 rintro i ⟨g1, g2⟩
 unfold eqTSt
 by_cases hi : i < l.length
 ·simp (maxSteps := 1000000) (disch := omega) only [go_sem]
  exact ⟨_, rfl, ⟨by omega, by omega⟩, by omega⟩
 ·simp (maxSteps := 1000000) (disch := omega) only [go_sem]
def spx {α : Type} (y : α) : Nat → List α → List α
 | 0, l => l
 | n + 1, l => (spx y n l).set n y
theorem spx_len {α : Type} (y : α) (l : List α) : ∀ n, (spx y n l).length = l.length
 | 0 => rfl
 | n + 1 => by rw [spx, List.length_set, spx_len y l n]
def spiSt (l : List Int) (n i : Int) : AS := ⟨tabV [(0, .one (.ow 1000000 0)), (4, iv n), (5, iv i)], tabO [], tabO [(1000000, niRow l)]⟩
theorem spoI_fcm (l : List Int) (hl : l.length ≤ 1000000) : FCM Tryz.prog 20 ⟨[], [(1000000, niRow l)]⟩ [.one (.ow 1000000 0)] (fun H r => H = ⟨[], [(1000000, niRow (spx 777 l.length l))]⟩ ∧ r = .tu []) := by
 refine fcm_spoI (K := ⟨[], [], [1000000]⟩) (by simp +arith) (by simp [XK]) (by simp [XK]) ?_
 unfold C_spoI
 simp (maxSteps := 1000000) (disch := omega) only [go_sem]
 refine ex_loop1 (fun i => spiSt (spx 777 i.toNat l) l.length i) (fun i => 0 ≤ i ∧ i ≤ l.length) (fun i => (l.length - i).toNat) 0 ⟨by omega, by omega⟩ rfl ?_
 rintro i ⟨g1, g2⟩
 have e2 : (i + 1).toNat = i.toNat + 1 := by omega
 have e3 : spx 777 (i + 1).toNat l = (spx 777 i.toNat l).set i.toNat 777 := by rw [e2, spx]
 have hml := spx_len 777 l i.toNat
 unfold spiSt
 by_cases hi : i < l.length
 ·generalize spx 777 i.toNat l = m at *
  have ei := getE_map_in intC m i.toNat (by omega)
  simp (maxSteps := 1000000) (disch := omega) only [go_sem]
  exact ⟨i + 1, by simp only [e3, niRow, List.map_set, intC], ⟨by omega, by omega⟩, by omega⟩
 ·have e4 : i.toNat = l.length := by omega
  rw [e4]
  simp (maxSteps := 1000000) (disch := omega) only [go_sem]
def spoilt : ByteArray := ByteArray.mk #[115, 112, 111, 105, 108, 116]
def spnSt (l : List ByteArray) (n i : Int) : AS := ⟨tabV [(0, .one (.ow 1000000 0)), (4, iv n), (5, iv i)], tabO [], tabO [(1000000, sRow l)]⟩
theorem spoN_fcm (l : List ByteArray) (hl : l.length ≤ 1000000) : FCM Tryz.prog 19 ⟨[], [(1000000, sRow l)]⟩ [.one (.ow 1000000 0)] (fun H r => H = ⟨[], [(1000000, sRow (spx spoilt l.length l))]⟩ ∧ r = .tu []) := by
 refine fcm_spoN (K := ⟨[], [], [1000000]⟩) (by simp +arith) (by simp [XK]) (by simp [XK]) ?_
 unfold C_spoN
 simp (maxSteps := 1000000) (disch := omega) only [go_sem]
 refine ex_loop1 (fun i => spnSt (spx spoilt i.toNat l) l.length i) (fun i => 0 ≤ i ∧ i ≤ l.length) (fun i => (l.length - i).toNat) 0 ⟨by omega, by omega⟩ rfl ?_
 rintro i ⟨g1, g2⟩
 have e2 : (i + 1).toNat = i.toNat + 1 := by omega
 have e3 : spx spoilt (i + 1).toNat l = (spx spoilt i.toNat l).set i.toNat spoilt := by rw [e2, spx]
 have hml := spx_len spoilt l i.toNat
 unfold spnSt
 by_cases hi : i < l.length
 ·generalize spx spoilt i.toNat l = m at *
  have ei := getE_map_in strC m i.toNat (by omega)
  simp (maxSteps := 1000000) (disch := omega) only [go_sem]
  exact ⟨i + 1, by rw [e3]; simp only [sRow, List.map_set, strC]; rfl, ⟨by omega, by omega⟩, by omega⟩
 ·have e4 : i.toNat = l.length := by omega
  rw [e4]
  simp (maxSteps := 1000000) (disch := omega) only [go_sem]
theorem spoI_nil (l : List Int) : FCM Tryz.prog 20 ⟨[], [(1000000, niRow l)]⟩ [ints false []] (fun H r => H = ⟨[], [(1000000, niRow l)]⟩ ∧ r = .tu []) := by
 refine fcm_spoI (K := ⟨[], [], [1000000]⟩) (by simp +arith) (by simp [XK]) (by simp [XK]) ?_
 unfold C_spoI
 simp (maxSteps := 1000000) (disch := omega) only [go_sem]
 refine ex_rnd 2 ?_
 simp (maxSteps := 1000000) (disch := omega) only [go_sem]
theorem foldT_ok {names : List ByteArray} : ∀ (ys : List Trf) (p : List ByteArray × List ByteArray), p.1.Nodup → (∀ s ∈ p.1, s ∈ names) → (∀ y ∈ ys, y.frm ∈ names) → (ys.foldl innT p).1.Nodup ∧ ∀ s ∈ (ys.foldl innT p).1, s ∈ names
 | [], p, h1, h2, _ => ⟨h1, h2⟩
 | y :: ys, p, h1, h2, h3 => by
  rw [List.foldl_cons]
  refine foldT_ok ys _ ?_ ?_ fun z hz => h3 z (by simp [hz])
  ·unfold innT
   split
   ·exact h1
   ·rename_i hn
    rw [List.nodup_append]
    exact ⟨h1, by simp, fun a ha b hb => by simp at hb; subst hb; rintro rfl; exact hn ha⟩
  ·unfold innT
   split
   ·exact h2
   ·intro s hs
    rcases List.mem_append.1 hs with hs | hs
    ·exact h2 s hs
    ·simp at hs; subst hs; exact h3 y (by simp)
theorem srcF_len {gk : ByteArray → List Trf} {names : List ByteArray} (hN : ∀ k, ∀ y ∈ gk k, y.frm ∈ names) : ∀ (n : Nat) (S T : List ByteArray), S.Nodup → (∀ s ∈ S, s ∈ names) → (srcF gk n S T).length ≤ names.length
 | 0, S, T, h1, h2 => nodup_le S names h1 h2
 | n + 1, S, [], h1, h2 => nodup_le S names h1 h2
 | n + 1, S, x :: T, h1, h2 => by
  rw [srcF]
  obtain ⟨h3, h4⟩ := foldT_ok (gk x) (S, T) h1 h2 (hN x)
  exact srcF_len hN n _ _ h3 h4
theorem srcL_len (l : List Trf) (b : ByteArray) : (srcL l b).length ≤ l.length := by
 unfold srcL
 have := srcF_len (gk := fun k => l.filter fun y => decide (y.to = k)) (names := l.map (·.frm)) (fun k y hy => List.mem_map.2 ⟨y, (List.mem_filter.1 hy).1, rfl⟩) (l.length + 1) [] [b] List.nodup_nil (by simp)
 simpa using this
theorem rightCurve_det (most : Int) (hm : 0 ≤ most) (hm2 : most ≤ 1000) : GenD Tryz.prog 14 [iv most] 24000 (fun r => ∃ l : List Smp, serFault l = 0 ∧ l.length ≤ most ∧ r = smps true l) := by
 refine genD_of (fun L p R' h => fc_rightCurve (xt := some (strm L p)) (args := [iv most]) (R := R') (by simp +arith) h) ?_
 intro L p hL hl h0 hp
 unfold C_rightCurve strm
 simp (maxSteps := 1000000) (disch := omega) only [go_sem]
 refine loopD (fun x : Int × Int => rcSt L most x.1 x.2) (fun x => 0 ≤ x.1 ∧ x.1 ≤ 6 ∧ p ≤ x.2 ∧ x.2 ≤ p + 4000 * x.1) (fun x => (6 - x.1).toNat) (0, p) ⟨by simp, by simp, by simp, by simp⟩ rfl ?_
 rintro G ⟨j, q⟩ ⟨g1, g2, g3, g4⟩ IH
 simp only at g1 g2 g3 g4
 unfold rcSt strm
 by_cases hj : j < 6
 ·simp (maxSteps := 1000000) (disch := omega) only [go_sem]
  obtain ⟨⟨q', r⟩, ⟨h1, h2, l, hll, hl64, rfl⟩, hf⟩ := (curve_det most hm hm2) L q hL hl (by omega) (by omega)
  simp only at h1 h2 hf
  refine exX hf rfl rfl ?_
  unfold strm
  simp (maxSteps := 1000000) (disch := omega) only [go_sem]
  refine exC (seriesFault_fc l (by omega)) (.inl rfl) ?_
  by_cases hs : serFault l = 0
  ·simp (maxSteps := 1000000) (disch := omega) only [go_sem]
   exact ⟨(q', _), ⟨by simp only; omega, by simp only; omega, l, hs, hll, rfl⟩, rfl, rfl⟩
  ·simp (maxSteps := 1000000) (disch := omega) only [go_sem]
   obtain ⟨y, hB, hG⟩ := IH (j + 1, q') ⟨by simp; omega, by simp; omega, by simp; omega, by simp; omega⟩ (by simp; omega)
   exact ⟨y, hB, _, rfl, by simp; omega, hG⟩
 ·clear IH
  simp (maxSteps := 1000000) (disch := omega) only [go_sem]
  exact ⟨(q, _), ⟨by simp only; omega, by simp only; omega, [], rfl, by simpa using hm, rfl⟩, rfl, rfl⟩
theorem OV1_len (p : Int × Int) : ∀ B : List (Int × Int), (OV1 p B).length ≤ B.length
 | [] => by simp [OV1]
 | q :: B => by
  have h1 := ovlW_len p q
  have h2 := OV1_len p B
  rw [OV1, List.length_append, List.length_cons]; omega
theorem OV2_len (B : List (Int × Int)) : ∀ A : List (Int × Int), (OV2 B A).length ≤ A.length * B.length
 | [] => by simp [OV2]
 | p :: A => by
  have h1 := OV1_len p B
  have h2 := OV2_len B A
  rw [OV2, List.length_append, List.length_cons, Nat.add_mul]; omega
def batSt (l : List Smp) (w : List (Int × Int)) (t : List Trf) (v : Val) (z : List ByteArray) (q : List Int) (i : Int) (o : List (Int × Int)) : AS :=
 ⟨tabV [(5, smps true l), (6, smps true l), (7, frsV true w), (8, frsV true w), (9, trs true t), (10, trs true t), (11, .one (.ow 501 0)), (14, .one (.ow 502 0)), (16, v), (72, iv o.length), (73, iv i)], tabO [], tabO [(501, winRow o), (502, sRow z), (503, niRow q)]⟩
def b5N : ByteArray := ByteArray.mk #[98, 53]
theorem b5_ok : keyOk b5N = true := by kernel_rfl
theorem b5_sz : b5N.size ≤ 1000000 := of_decide_eq_true (by kernel_rfl)
set_option maxHeartbeats 4000000 in
theorem bat_fc (L : List Int) (hL : ∀ x ∈ L, I64 x) (hl : L.length ≤ 9223372036854775807) : FC Tryz.prog 4 none [ints false L] (fun _ r => r = bv true) := by
 obtain ⟨⟨pa, ra⟩, ⟨hpa, hpb, l, hs, hll, hra⟩, hf⟩ := rightCurve_det 10 (by omega) (by omega) L 0 hL hl (by omega) (by omega)
 simp only at hpa hpb hra hf
 subst hra
 obtain ⟨⟨pc, rc⟩, ⟨hpc, hpd, w, hwl, hrc⟩, hg⟩ := frameList_det L pa hL hl (by omega) (by omega)
 simp only at hpc hpd hrc hg
 subst hrc
 obtain ⟨⟨pe, re⟩, ⟨hpe, hpf, t, ht0, htl, hts, hre⟩, hh⟩ := rightTr_det L pc hL hl (by omega) (by omega)
 simp only at hpe hpf hre hh
 subst hre
 refine fc_bat (by simp +arith) ?_
 unfold C_bat
 simp (maxSteps := 1000000) (disch := omega) only [go_sem]
 refine CALLX_det hf rfl rfl ?_
 unfold strm
 simp (maxSteps := 1000000) (disch := omega) only [go_sem]
 refine CALLX_det hf rfl rfl ?_
 unfold strm
 simp (maxSteps := 1000000) (disch := omega) only [go_sem]
 refine CALLX_det hg rfl rfl ?_
 unfold strm
 simp (maxSteps := 1000000) (disch := omega) only [go_sem]
 refine CALLX_det hg rfl rfl ?_
 unfold strm
 simp (maxSteps := 1000000) (disch := omega) only [go_sem]
 refine CALLX_det hh rfl rfl ?_
 unfold strm
 simp (maxSteps := 1000000) (disch := omega) only [go_sem]
 refine CALLX_det hh rfl rfl ?_
 unfold strm
 simp (maxSteps := 1000000) (disch := omega) only [go_sem]
 refine CALL_det (frameFault_fc w (by omega)) (.inl rfl) ?_
 by_cases hw : fwF w = 0
 ·rw [hw]
  simp (maxSteps := 1000000) (disch := omega) only [go_sem]
  refine ⟨rfl, CALLM_rnE ⟨[], [(501, winRow (OV2 w w))]⟩ (.tu [.one (.ow 501 0), iv (lenS (OV2 w w)), iv 0]) (fun k => k) (Go.Ai.swp 8 501) (fun _ => rfl) (Go.Ai.swp_swp 8 501) (overlaps_fcm w w (by omega) (by omega) hw hw) (by simp) rfl rfl rfl rfl ⟨rfl, rfl⟩ ?_⟩
  have hol : (OV2 w w).length ≤ 16 := Nat.le_trans (OV2_len w w) (Nat.mul_le_mul hwl hwl)
  generalize lenS (OV2 w w) = on
  generalize OV2 w w = o at *
  simp (maxSteps := 1000000) (disch := omega) only [go_sem]
  have hzl := srcL_len t b5N
  have hz2 := srtS_len (srcL t b5N)
  refine ⟨rfl, CALLM_rnE ⟨[], [(502, sRow (srtS (srcL t b5N)))]⟩ (.tu [.one (.ow 502 0), iv 0]) (fun k => k) (Go.Ai.swp 600 502) (fun _ => rfl) (Go.Ai.swp_swp 600 502) (sources_fcm t b5N (by omega) (fun x hx => ⟨Nat.le_trans (hts x hx).1 (by omega), Nat.le_trans (hts x hx).2 (by omega)⟩) b5_sz ht0 b5_ok (by omega)) (by simp) rfl rfl rfl rfl ⟨rfl, rfl⟩ ?_⟩
  have hz : (srtS (srcL t b5N)).length ≤ 20 := by omega
  clear hzl hz2
  generalize srtS (srcL t b5N) = z at *
  simp (maxSteps := 1000000) (disch := omega) only [go_sem]
  have hp := profileP_fcm l (by omega) 0 40 4 hs (by rfl) (by omega)
  have hq := prL_len l 0 40 4 (4 + 1 : Int).toNat
  have hq : (prL l 0 40 4 (4 + 1 : Int).toNat).length ≤ 5 := hq
  unfold prH prR at hp
  generalize prL l 0 40 4 (4 + 1 : Int).toNat = q at *
  cases hk : prOk l 0 40 4 (4 + 1 : Int).toNat with
  | true =>
   rw [hk, if_pos rfl] at hp
   refine ⟨rfl, CALLM_rnE ⟨[], [(503, niRow q)]⟩ (.tu [.one (.ow 503 0), bv true, iv 0]) (fun k => k) (Go.Ai.swp 500 503) (fun _ => rfl) (Go.Ai.swp_swp 500 503) hp (by simp) rfl rfl rfl rfl ⟨rfl, rfl⟩ ?_⟩
   clear hk hp
   simp (maxSteps := 1000000) (disch := omega) only [go_sem]
   refine ex_loop2 (batSt l w t (.one (.ow 503 0)) z q) (fun i o => 0 ≤ i ∧ i ≤ o.length ∧ o.length ≤ 16) (fun i o => (o.length - i).toNat) 0 o ⟨by omega, by omega, hol⟩ rfl ?_
   clear hol
   rintro i o ⟨g1, g2, g3⟩
   unfold batSt
   by_cases hi : i < o.length
   ·have ei := getE_map_in frC o i.toNat (by omega)
    simp (maxSteps := 1000000) (disch := omega) only [go_sem]
    exact ⟨i + 1, o.set i.toNat ((o.getD i.toNat default).1, 777), by simp only [batSt, winRow, List.length_set, List.map_set, frC], ⟨by omega, by simp; omega, by simp; omega⟩, by simp; omega⟩
   ·simp (maxSteps := 1000000) (disch := omega) only [go_sem]
    refine ⟨rfl, CALLM_rnE ⟨[], [(502, sRow (spx spoilt z.length z))]⟩ (.tu []) (fun k => k) (Go.Ai.swp 502 1000000) (fun _ => rfl) (Go.Ai.swp_swp 502 1000000) (spoN_fcm z (by omega)) (by simp) rfl rfl rfl rfl ⟨rfl, rfl⟩ ?_⟩
    simp (maxSteps := 1000000) (disch := omega) only [go_sem]
    refine ⟨rfl, CALLM_rnE ⟨[], [(503, niRow (spx 777 q.length q))]⟩ (.tu []) (fun k => k) (Go.Ai.swp 503 1000000) (fun _ => rfl) (Go.Ai.swp_swp 503 1000000) (spoI_fcm q (by omega)) (by simp) rfl rfl rfl rfl ⟨rfl, rfl⟩ ?_⟩
    simp (maxSteps := 1000000) (disch := omega) only [go_sem]
    refine CALL_det (eqSmp_fc false false l (by omega)) (.inl rfl) ?_
    simp (maxSteps := 1000000) (disch := omega) only [go_sem]
    refine CALL_det (eqWin_fc w (by omega)) (.inl rfl) ?_
    simp (maxSteps := 1000000) (disch := omega) only [go_sem]
    refine CALL_det (eqTrf_fc t (by omega)) (.inl rfl) ?_
    simp (maxSteps := 1000000) (disch := omega) only [go_sem]
    refine CALL_det ready_fc (.inl rfl) ?_
    simp (maxSteps := 1000000) (disch := omega) only [go_sem]
  | false =>
   rw [hk, if_neg (by simp)] at hp
   refine ⟨rfl, CALLM_rnE ⟨[], [(503, niRow q)]⟩ (.tu [ints true [], bv false, iv 0]) (fun k => k) (Go.Ai.swp 500 503) (fun _ => rfl) (Go.Ai.swp_swp 500 503) hp (by simp) rfl rfl rfl rfl ⟨rfl, rfl⟩ ?_⟩
   clear hk hp
   simp (maxSteps := 1000000) (disch := omega) only [go_sem]
   refine ex_loop2 (batSt l w t (.one (.sl true 1 [])) z q) (fun i o => 0 ≤ i ∧ i ≤ o.length ∧ o.length ≤ 16) (fun i o => (o.length - i).toNat) 0 o ⟨by omega, by omega, hol⟩ rfl ?_
   clear hol
   rintro i o ⟨g1, g2, g3⟩
   unfold batSt
   by_cases hi : i < o.length
   ·have ei := getE_map_in frC o i.toNat (by omega)
    simp (maxSteps := 1000000) (disch := omega) only [go_sem]
    exact ⟨i + 1, o.set i.toNat ((o.getD i.toNat default).1, 777), by simp only [batSt, winRow, List.length_set, List.map_set, frC], ⟨by omega, by simp; omega, by simp; omega⟩, by simp; omega⟩
   ·simp (maxSteps := 1000000) (disch := omega) only [go_sem]
    refine ⟨rfl, CALLM_rnE ⟨[], [(502, sRow (spx spoilt z.length z))]⟩ (.tu []) (fun k => k) (Go.Ai.swp 502 1000000) (fun _ => rfl) (Go.Ai.swp_swp 502 1000000) (spoN_fcm z (by omega)) (by simp) rfl rfl rfl rfl ⟨rfl, rfl⟩ ?_⟩
    simp (maxSteps := 1000000) (disch := omega) only [go_sem]
    refine ⟨rfl, CALLM_rnE ⟨[], [(503, niRow q)]⟩ (.tu []) (fun k => k) (Go.Ai.swp 503 1000000) (fun _ => rfl) (Go.Ai.swp_swp 503 1000000) (spoI_nil q) (by simp) rfl rfl rfl rfl ⟨rfl, rfl⟩ ?_⟩
    simp (maxSteps := 1000000) (disch := omega) only [go_sem]
    refine CALL_det (eqSmp_fc false false l (by omega)) (.inl rfl) ?_
    simp (maxSteps := 1000000) (disch := omega) only [go_sem]
    refine CALL_det (eqWin_fc w (by omega)) (.inl rfl) ?_
    simp (maxSteps := 1000000) (disch := omega) only [go_sem]
    refine CALL_det (eqTrf_fc t (by omega)) (.inl rfl) ?_
    simp (maxSteps := 1000000) (disch := omega) only [go_sem]
    refine CALL_det ready_fc (.inl rfl) ?_
    simp (maxSteps := 1000000) (disch := omega) only [go_sem]
 ·simp (maxSteps := 1000000) (disch := omega) only [go_sem]
  refine CALL_det ready_fc (.inl rfl) ?_
  simp (maxSteps := 1000000) (disch := omega) only [go_sem]
end Go.Proofs.YtjamjffppcjeiaaGreatDoor

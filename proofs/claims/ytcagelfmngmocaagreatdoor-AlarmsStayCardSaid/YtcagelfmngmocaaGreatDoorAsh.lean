
/-
 What AlarmsStay compares, and how it spoils what it has got.
-/
import Derived.Test.YtcagelfmngmocaaGreatDoorCha
namespace Go.Proofs.YtcagelfmngmocaaGreatDoor
open Go Go.Ai
set_option linter.unusedSimpArgs false
set_option linter.unusedVariables false
set_option maxHeartbeats 4000000
def C_eqAlm : AC := (.seq (.reg false [gI 4 (.mv (.v (.bool false)))] (kP [0,1] [] []))
 (.seq (.seq (.reg false [gM 6 0,gI 7 (.len (.t 6)),gM 8 1,gI 9 (.len (.t 8)),gI 10 (.bin .neq (.t 7) (.t 9))] (kP [0,1,10] [] []))
 (.cond (.t 10)
 (.seq (.reg false [gI 4 (.mv (.v (.bool false)))] (kP [4] [] []))
 .ret)
 .skip))
 (.seq (.seq (.reg false [gM 11 0,gI 12 (.len (.t 11)),gI 13 (.mv (oI 0))] (kP [0,1,12,13] [] []))
 (.block 0 (.loop (.seq (.reg false [gI 14 (.bin .lss (.t 13) (.t 12))] (kP [0,1,12,13,14] [] []))
 (.seq (.cond (.t 14)
 .skip
 (.exit 0))
 (.seq (.block 1 (.seq (.reg false [gM 15 13,gM 5 15] (kP [0,1,5,12,13] [] []))
 (.seq (.reg true [gM 16 0,gM 17 5,gI 18 (.iadr 10 (.t 16) (.t 17)),gI 19 (.load true 10 (.t 18)),gM 20 1,gM 21 5,gI 22 (.iadr 10 (.t 20) (.t 21)),gI 23 (.load true 10 (.t 22)),gI 24 (.eqs true true [.s,.s,.i .i64,.i .i64,.i .i64,.i .i64,.i .i64,.i .i64,.b,.s] (.t 19) (.t 23))] (kP [0,1,12,13,24] [] []))
 (.cond (.t 24)
 (.seq (.reg false [gI 4 (.mv (.v (.bool false)))] (kP [4] [] []))
 .ret)
 .skip))))
 (.reg false [gI 25 (.bin .add (.t 13) (oI 1)),gM 13 25] (kP [0,1,12,13] [] []))))))))
 (.seq (.reg false [gI 4 (.mv (.v (.bool true)))] (kP [4] [] []))
 .ret))))
theorem fc_eqAlm : FcT Tryz.prog 20 Tryz.f20 C_eqAlm [.t 4] := fc_mk [aN [0,1] [] [],aN [0,1,10] [] [],aN [4] [] [],aN [0,1,12,13] [] [],aN [0,1,12,13,14] [] [],aN [0,1,5,12,13] [] [],aN [0,1,12,13,24] [] [],aN [4] [] [],aN [0,1,12,13] [] [],aN [4] [] []] Tryz.func20 (by kernel_rfl)
def C_eqOpr : AC := (.seq (.reg false [gI 4 (.mv (.v (.bool false)))] (kP [0,1] [] []))
 (.seq (.seq (.reg false [gM 6 0,gI 7 (.len (.t 6)),gM 8 1,gI 9 (.len (.t 8)),gI 10 (.bin .neq (.t 7) (.t 9))] (kP [0,1,10] [] []))
 (.cond (.t 10)
 (.seq (.reg false [gI 4 (.mv (.v (.bool false)))] (kP [4] [] []))
 .ret)
 .skip))
 (.seq (.seq (.reg false [gM 11 0,gI 12 (.len (.t 11)),gI 13 (.mv (oI 0))] (kP [0,1,12,13] [] []))
 (.block 0 (.loop (.seq (.reg false [gI 14 (.bin .lss (.t 13) (.t 12))] (kP [0,1,12,13,14] [] []))
 (.seq (.cond (.t 14)
 .skip
 (.exit 0))
 (.seq (.block 1 (.seq (.reg false [gM 15 13,gM 5 15] (kP [0,1,5,12,13] [] []))
 (.seq (.reg true [gM 16 0,gM 17 5,gI 18 (.iadr 6 (.t 16) (.t 17)),gI 19 (.load true 6 (.t 18)),gM 20 1,gM 21 5,gI 22 (.iadr 6 (.t 20) (.t 21)),gI 23 (.load true 6 (.t 22)),gI 24 (.eqs true true [.s,.i .i64,.i .i64,.i .i64,.s,.i .i64] (.t 19) (.t 23))] (kP [0,1,12,13,24] [] []))
 (.cond (.t 24)
 (.seq (.reg false [gI 4 (.mv (.v (.bool false)))] (kP [4] [] []))
 .ret)
 .skip))))
 (.reg false [gI 25 (.bin .add (.t 13) (oI 1)),gM 13 25] (kP [0,1,12,13] [] []))))))))
 (.seq (.reg false [gI 4 (.mv (.v (.bool true)))] (kP [4] [] []))
 .ret))))
theorem fc_eqOpr : FcT Tryz.prog 22 Tryz.f22 C_eqOpr [.t 4] := fc_mk [aN [0,1] [] [],aN [0,1,10] [] [],aN [4] [] [],aN [0,1,12,13] [] [],aN [0,1,12,13,14] [] [],aN [0,1,5,12,13] [] [],aN [0,1,12,13,24] [] [],aN [4] [] [],aN [0,1,12,13] [] [],aN [4] [] []] Tryz.func22 (by kernel_rfl)
def C_eqSma : AC := (.seq (.reg false [gI 4 (.mv (.v (.bool false)))] (kP [0,1] [] []))
 (.seq (.seq (.reg false [gM 6 0,gI 7 (.len (.t 6)),gM 8 1,gI 9 (.len (.t 8)),gI 10 (.bin .neq (.t 7) (.t 9))] (kP [0,1,10] [] []))
 (.cond (.t 10)
 (.seq (.reg false [gI 4 (.mv (.v (.bool false)))] (kP [4] [] []))
 .ret)
 .skip))
 (.seq (.seq (.reg false [gM 11 0,gI 12 (.len (.t 11)),gI 13 (.mv (oI 0))] (kP [0,1,12,13] [] []))
 (.block 0 (.loop (.seq (.reg false [gI 14 (.bin .lss (.t 13) (.t 12))] (kP [0,1,12,13,14] [] []))
 (.seq (.cond (.t 14)
 .skip
 (.exit 0))
 (.seq (.block 1 (.seq (.reg false [gM 15 13,gM 5 15] (kP [0,1,5,12,13] [] []))
 (.seq (.reg true [gM 16 0,gM 17 5,gI 18 (.iadr 3 (.t 16) (.t 17)),gI 19 (.load true 3 (.t 18)),gM 20 1,gM 21 5,gI 22 (.iadr 3 (.t 20) (.t 21)),gI 23 (.load true 3 (.t 22)),gI 24 (.eqs true true [.i .i64,.i .i64,.i .i64] (.t 19) (.t 23))] (kP [0,1,12,13,24] [] []))
 (.cond (.t 24)
 (.seq (.reg false [gI 4 (.mv (.v (.bool false)))] (kP [4] [] []))
 .ret)
 .skip))))
 (.reg false [gI 25 (.bin .add (.t 13) (oI 1)),gM 13 25] (kP [0,1,12,13] [] []))))))))
 (.seq (.reg false [gI 4 (.mv (.v (.bool true)))] (kP [4] [] []))
 .ret))))
theorem fc_eqSma : FcT Tryz.prog 67 Tryz.f67 C_eqSma [.t 4] := fc_mk [aN [0,1] [] [],aN [0,1,10] [] [],aN [4] [] [],aN [0,1,12,13] [] [],aN [0,1,12,13,14] [] [],aN [0,1,5,12,13] [] [],aN [0,1,12,13,24] [] [],aN [4] [] [],aN [0,1,12,13] [] [],aN [4] [] []] Tryz.func67 (by kernel_rfl)
def C_sameC : AC := (.seq (.reg false [gI 2 (.box (.t 0)),gI 3 (.box (.t 1)),gI 4 (.mv (.v (.bool false)))] (kP [2,3] [2,3] []))
 (.seq (.reg false [gI 5 (.fadr 0 (.t 2)),gI 6 (.load false 1 (.t 5)),gI 7 (.fadr 0 (.t 3)),gI 8 (.load false 1 (.t 7)),gI 9 (.bin .eql (.t 6) (.t 8)),gM 10 9,gG 11 10 true (.fadr 1 (.t 2)),gG 12 10 true (.load false 1 (.t 11)),gG 13 10 true (.fadr 1 (.t 3)),gG 14 10 true (.load false 1 (.t 13)),gG 15 10 true (.call (.f 67) [(.t 12),(.t 14)]),gI 16 (.pick (.t 10) (.t 15) (.v (.bool false))),gM 4 16] (kP [4] [] []))
 .ret))
theorem fc_sameC : FcT Tryz.prog 66 Tryz.f66 C_sameC [.t 4] := fc_mk [aN [2,3] [2,3] [],aN [4] [] []] Tryz.func66 (by kernel_rfl)
def C_eqFun : AC := (.seq (.reg false [gI 6 (.mv (.v (.bool false)))] (kP [0,1,2] [] []))
 (.seq (.seq (.reg false [gM 10 0,gI 11 (.len (.t 10)),gM 12 1,gI 13 (.len (.t 12)),gI 14 (.bin .neq (.t 11) (.t 13))] (kP [0,1,2,14] [] []))
 (.cond (.t 14)
 (.seq (.reg false [gI 6 (.mv (.v (.bool false)))] (kP [6] [] []))
 .ret)
 .skip))
 (.seq (.seq (.reg false [gM 15 0,gI 16 (.len (.t 15)),gI 17 (.mv (oI 0))] (kP [1,2,15,16,17] [] []))
 (.block 0 (.loop (.seq (.reg false [gI 18 (.bin .lss (.t 17) (.t 16))] (kP [1,2,15,16,17,18] [] []))
 (.seq (.cond (.t 18)
 .skip
 (.exit 0))
 (.seq (.block 1 (.seq (.reg false [gM 19 17,gI 20 (.iadr 2 (.t 15) (.t 17)),gI 21 (.load true 2 (.t 20)),gI 8 (.alloc [(.string (ByteArray.mk #[])),(.slice none 0 0)]),gM 7 19,gN (.store 2 (.t 8) (.t 21))] (kP [1,2,7,8,15,16,17] [8] []))
 (.seq (.reg false [gM 22 1,gM 23 7,gI 24 (.iadr 2 (.t 22) (.t 23)),gI 25 (.load true 2 (.t 24)),gI 9 (.alloc [(.string (ByteArray.mk #[])),(.slice none 0 0)]),gN (.store 2 (.t 9) (.t 25))] (kP [1,2,8,9,15,16,17] [8,9] []))
 (.seq (.reg false [gM 26 2,gI 27 (.load true 2 (.t 8)),gI 28 (.load true 2 (.t 9)),gI 29 (.call (.t 26) [(.t 27),(.t 28)]),gI 30 (.un .not (.t 29))] (kP [1,2,15,16,17,30] [] []))
 (.cond (.t 30)
 (.seq (.reg false [gI 6 (.mv (.v (.bool false)))] (kP [6] [] []))
 .ret)
 .skip)))))
 (.reg false [gI 31 (.bin .add (.t 17) (oI 1)),gM 17 31] (kP [1,2,15,16,17] [] []))))))))
 (.seq (.reg false [gI 6 (.mv (.v (.bool true)))] (kP [6] [] []))
 .ret))))
theorem fc_eqFun : FcT Tryz.prog 65 Tryz.f65 C_eqFun [.t 6] := fc_mk [aN [0,1,2] [] [],aN [0,1,2,14] [] [],aN [6] [] [],aN [1,2,15,16,17] [] [],aN [1,2,15,16,17,18] [] [],aN [1,2,7,8,15,16,17] [8] [],aN [1,2,8,9,15,16,17] [8,9] [],aN [1,2,15,16,17,30] [] [],aN [6] [] [],aN [1,2,15,16,17] [] [],aN [6] [] []] Tryz.func65 (by kernel_rfl)
def C_sameT : AC := (.seq (.reg false [gI 4 (.mv (.v (.bool false)))] (kP [0,1] [] []))
 (.seq (.reg false [gM 5 0,gM 6 1,gI 7 (.call (.f 65) [(.t 5),(.t 6),(.f 66)]),gM 4 7] (kP [4] [] []))
 .ret))
theorem fc_sameT : FcT Tryz.prog 21 Tryz.f21 C_sameT [.t 4] := fc_mk [aN [0,1] [] [],aN [4] [] []] Tryz.func21 (by kernel_rfl)
def C_spoI : AC := (.seq (.reg false [gM 3 0,gI 4 (.len (.t 3)),gI 5 (.mv (oI 0))] (kP [0,4,5] [] [1000000]))
 (.block 0 (.loop (.seq (.reg false [gI 6 (.bin .lss (.t 5) (.t 4))] (kP [0,4,5,6] [] [1000000]))
 (.seq (.cond (.t 6)
 .skip
 (.exit 0))
 (.seq (.block 1 (.seq (.reg false [gM 7 5,gM 2 7] (kP [0,2,4,5] [] [1000000]))
 (.reg false [gM 8 0,gM 9 2,gI 10 (.iadr 1 (.t 8) (.t 9)),gN (.store 1 (.t 10) (oI 777))] (kP [0,4,5] [] [1000000]))))
 (.reg false [gI 11 (.bin .add (.t 5) (oI 1)),gM 5 11] (kP [0,4,5] [] [1000000]))))))))
theorem fcm_spoI : FmT Tryz.prog 18 Tryz.f18 C_spoI [] := fcm_mk [aN [0,4,5] [] [1000000],aN [0,4,5,6] [] [1000000],aN [0,2,4,5] [] [1000000],aN [0,4,5] [] [1000000],aN [0,4,5] [] [1000000]] Tryz.func18 (by kernel_rfl)
def C_spoN : AC := (.seq (.reg false [gM 3 0,gI 4 (.len (.t 3)),gI 5 (.mv (oI 0))] (kP [0,4,5] [] [1000000]))
 (.block 0 (.loop (.seq (.reg false [gI 6 (.bin .lss (.t 5) (.t 4))] (kP [0,4,5,6] [] [1000000]))
 (.seq (.cond (.t 6)
 .skip
 (.exit 0))
 (.seq (.block 1 (.seq (.reg false [gM 7 5,gM 2 7] (kP [0,2,4,5] [] [1000000]))
 (.reg false [gM 8 0,gM 9 2,gI 10 (.iadr 1 (.t 8) (.t 9)),gN (.store 1 (.t 10) (.v (.string (ByteArray.mk #[115,112,111,105,108,116]))))] (kP [0,4,5] [] [1000000]))))
 (.reg false [gI 11 (.bin .add (.t 5) (oI 1)),gM 5 11] (kP [0,4,5] [] [1000000]))))))))
theorem fcm_spoN : FmT Tryz.prog 19 Tryz.f19 C_spoN [] := fcm_mk [aN [0,4,5] [] [1000000],aN [0,4,5,6] [] [1000000],aN [0,2,4,5] [] [1000000],aN [0,4,5] [] [1000000],aN [0,4,5] [] [1000000]] Tryz.func19 (by kernel_rfl)
def eqASt (l : List Alm) (i : Int) : AS := ⟨tabV [(0, alms false l), (1, alms false l), (12, iv l.length), (13, iv i)], tabO [], tabO []⟩
theorem eqAlm_fc (l : List Alm) (hl : l.length ≤ 1000000) : FC Tryz.prog 20 none [alms false l, alms false l] (fun _ r => r = bv true) := by
 refine fc_eqAlm (by simp +arith) ?_
 unfold C_eqAlm
 simp (maxSteps := 1000000) (disch := omega) only [go_sem]
 refine ex_loop1 (eqASt l) (fun i => 0 ≤ i ∧ i ≤ l.length) (fun i => (l.length - i).toNat) 0 ⟨by omega, by omega⟩ rfl ?_
 rintro i ⟨g1, g2⟩
 unfold eqASt
 by_cases hi : i < l.length
 ·simp (maxSteps := 1000000) (disch := omega) only [go_sem]
  exact ⟨_, rfl, ⟨by omega, by omega⟩, by omega⟩
 ·simp (maxSteps := 1000000) (disch := omega) only [go_sem]
def eqOSt (l : List Opr) (i : Int) : AS := ⟨tabV [(0, oprs false l), (1, oprs false l), (12, iv l.length), (13, iv i)], tabO [], tabO []⟩
theorem eqOpr_fc (l : List Opr) (hl : l.length ≤ 1000000) : FC Tryz.prog 22 none [oprs false l, oprs false l] (fun _ r => r = bv true) := by
 refine fc_eqOpr (by simp +arith) ?_
 unfold C_eqOpr
 simp (maxSteps := 1000000) (disch := omega) only [go_sem]
 refine ex_loop1 (eqOSt l) (fun i => 0 ≤ i ∧ i ≤ l.length) (fun i => (l.length - i).toNat) 0 ⟨by omega, by omega⟩ rfl ?_
 rintro i ⟨g1, g2⟩
 unfold eqOSt
 by_cases hi : i < l.length
 ·simp (maxSteps := 1000000) (disch := omega) only [go_sem]
  exact ⟨_, rfl, ⟨by omega, by omega⟩, by omega⟩
 ·simp (maxSteps := 1000000) (disch := omega) only [go_sem]
def eqMSt (fr : Bool) (l : List Smp) (i : Int) : AS := ⟨tabV [(0, smps fr l), (1, smps fr l), (12, iv l.length), (13, iv i)], tabO [], tabO []⟩
theorem eqSma_fc (fr : Bool) (l : List Smp) (hl : l.length ≤ 1000000) : FC Tryz.prog 67 none [smps fr l, smps fr l] (fun _ r => r = bv true) := by
 refine fc_eqSma (by simp +arith) ?_
 unfold C_eqSma
 simp (maxSteps := 1000000) (disch := omega) only [go_sem]
 refine ex_loop1 (eqMSt fr l) (fun i => 0 ≤ i ∧ i ≤ l.length) (fun i => (l.length - i).toNat) 0 ⟨by omega, by omega⟩ rfl ?_
 rintro i ⟨g1, g2⟩
 unfold eqMSt
 by_cases hi : i < l.length
 ·simp (maxSteps := 1000000) (disch := omega) only [go_sem]
  exact ⟨_, rfl, ⟨by omega, by omega⟩, by omega⟩
 ·simp (maxSteps := 1000000) (disch := omega) only [go_sem]
theorem sameC_fc (x : Ser) (hx : x.l.length ≤ 1000000) : FC Tryz.prog 66 none [.ag (serS false x), .ag (serS false x)] (fun _ r => r = bv true) := by
 refine fc_sameC (by simp +arith) ?_
 unfold C_sameC
 simp (maxSteps := 1000000) (disch := omega) only [go_sem]
 refine CALL_det (eqSma_fc _ x.l hx) (.inl rfl) ?_
 simp (maxSteps := 1000000) (disch := omega) only [go_sem]
 done
def eqFSt (s : List Ser) (i : Int) : AS := ⟨tabV [(1, sers false s), (2, .one (.fn 66 [])), (15, sers false s), (16, iv s.length), (17, iv i)], tabO [], tabO []⟩
theorem eqFun_fc (s : List Ser) (hs : s.length ≤ 1000000) (hx : ∀ x ∈ s, x.l.length ≤ 1000000) : FC Tryz.prog 65 none [sers false s, sers false s, .one (.fn 66 [])] (fun _ r => r = bv true) := by
 refine fc_eqFun (by simp +arith) ?_
 unfold C_eqFun
 simp (maxSteps := 1000000) (disch := omega) only [go_sem]
 refine ex_loop1 (eqFSt s) (fun i => 0 ≤ i ∧ i ≤ s.length) (fun i => (s.length - i).toNat) 0 ⟨by omega, by omega⟩ rfl ?_
 rintro i ⟨g1, g2⟩
 unfold eqFSt
 by_cases hi : i < s.length
 ·have ei := getD_map_at (serS true) s i [] g1 hi
  have hc := sameC_fc (s.getD i.toNat default) (hx _ (getD_mem s i.toNat (by omega)))
  simp (maxSteps := 1000000) (disch := omega) only [go_sem]
  refine CALL_det hc (.inl rfl) ?_
  simp (maxSteps := 1000000) (disch := omega) only [go_sem]
  exact ⟨_, rfl, ⟨by omega, by omega⟩, by omega⟩
 ·simp (maxSteps := 1000000) (disch := omega) only [go_sem]
theorem sameT_fc (s : List Ser) (hs : s.length ≤ 1000000) (hx : ∀ x ∈ s, x.l.length ≤ 1000000) : FC Tryz.prog 21 none [sers false s, sers false s] (fun _ r => r = bv true) := by
 refine fc_sameT (by simp +arith) ?_
 unfold C_sameT
 simp (maxSteps := 1000000) (disch := omega) only [go_sem]
 refine CALL_det (eqFun_fc s hs hx) (.inl rfl) ?_
 simp (maxSteps := 1000000) (disch := omega) only [go_sem]
def spx {α : Type} (y : α) : Nat → List α → List α
 | 0, l => l
 | n + 1, l => (spx y n l).set n y
theorem spx_len {α : Type} (y : α) (l : List α) : ∀ n, (spx y n l).length = l.length
 | 0 => rfl
 | n + 1 => by rw [spx, List.length_set, spx_len y l n]
def spiSt (l : List Int) (n i : Int) : AS := ⟨tabV [(0, .one (.ow 1000000 0)), (4, iv n), (5, iv i)], tabO [], tabO [(1000000, nRow l)]⟩
theorem spoI_fcm (l : List Int) (hl : l.length ≤ 1000000) : FCM Tryz.prog 18 ⟨[], [(1000000, nRow l)]⟩ [.one (.ow 1000000 0)] (fun H r => H = ⟨[], [(1000000, nRow (spx 777 l.length l))]⟩ ∧ r = .tu []) := by
 refine fcm_spoI (K := ⟨[], [], [1000000]⟩) (by simp +arith) (by simp [XK]) (by simp [XK]) ?_
 unfold C_spoI
 simp (maxSteps := 1000000) (disch := omega) only [go_sem]
 refine ex_loop1 (fun i => spiSt (spx 777 i.toNat l) l.length i) (fun i => 0 ≤ i ∧ i ≤ l.length) (fun i => (l.length - i).toNat) 0 ⟨by omega, by omega⟩ rfl ?_
 rintro i ⟨g1, g2⟩
 have e2 : (i + 1).toNat = i.toNat + 1 := by omega
 have e3 : spx 777 (i + 1).toNat l = (spx 777 i.toNat l).set i.toNat 777 := by rw [e2, spx]
 have hml := spx_len 777 l i.toNat
 unfold spiSt
 by_cases hi : i < l.length
 ·generalize spx 777 i.toNat l = m at *
  have ei := getE_map_in intC m i.toNat (by omega)
  simp (maxSteps := 1000000) (disch := omega) only [go_sem]
  exact ⟨i + 1, by simp only [e3, nRow, List.map_set, intC], ⟨by omega, by omega⟩, by omega⟩
 ·have e4 : i.toNat = l.length := by omega
  rw [e4]
  simp (maxSteps := 1000000) (disch := omega) only [go_sem]
def spoilt : ByteArray := ByteArray.mk #[115, 112, 111, 105, 108, 116]
def spnSt (l : List ByteArray) (n i : Int) : AS := ⟨tabV [(0, .one (.ow 1000000 0)), (4, iv n), (5, iv i)], tabO [], tabO [(1000000, keyRow l)]⟩
theorem spoN_fcm (l : List ByteArray) (hl : l.length ≤ 1000000) : FCM Tryz.prog 19 ⟨[], [(1000000, keyRow l)]⟩ [.one (.ow 1000000 0)] (fun H r => H = ⟨[], [(1000000, keyRow (spx spoilt l.length l))]⟩ ∧ r = .tu []) := by
 refine fcm_spoN (K := ⟨[], [], [1000000]⟩) (by simp +arith) (by simp [XK]) (by simp [XK]) ?_
 unfold C_spoN
 simp (maxSteps := 1000000) (disch := omega) only [go_sem]
 refine ex_loop1 (fun i => spnSt (spx spoilt i.toNat l) l.length i) (fun i => 0 ≤ i ∧ i ≤ l.length) (fun i => (l.length - i).toNat) 0 ⟨by omega, by omega⟩ rfl ?_
 rintro i ⟨g1, g2⟩
 have e2 : (i + 1).toNat = i.toNat + 1 := by omega
 have e3 : spx spoilt (i + 1).toNat l = (spx spoilt i.toNat l).set i.toNat spoilt := by rw [e2, spx]
 have hml := spx_len spoilt l i.toNat
 unfold spnSt
 by_cases hi : i < l.length
 ·generalize spx spoilt i.toNat l = m at *
  have ei := getE_map_in keyC m i.toNat (by omega)
  simp (maxSteps := 1000000) (disch := omega) only [go_sem]
  exact ⟨i + 1, by rw [e3]; simp only [keyRow, List.map_set, keyC]; rfl, ⟨by omega, by omega⟩, by omega⟩
 ·have e4 : i.toNat = l.length := by omega
  rw [e4]
  simp (maxSteps := 1000000) (disch := omega) only [go_sem]
end Go.Proofs.YtcagelfmngmocaaGreatDoor

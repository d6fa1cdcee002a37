/-
 The reference's transfers: what hangs together with a batch, and what is wrong with transfers.
-/
import Derived.Test.YtodmofhehabmgaaGreatDoorTck
import Derived.Test.YtodmofhehabmgaaGreatDoorSos
import Derived.Test.YtodmofhehabmgaaGreatDoorWrl
import Derived.Test.YtodmofhehabmgaaGreatDoorPrw
namespace Go.Proofs.YtodmofhehabmgaaGreatDoor
open Go Go.Ai
set_option linter.unusedSimpArgs false
set_option linter.unusedVariables false
set_option maxHeartbeats 4000000
def C_linked : AC := (.seq (.reg false [gI 4 (.mv (.v (.slice none 0 0)))] (kP [0,1,1000001] [1000001] [5]))
 (.seq (.seq (.reg false [gI 5 (.mv (.v (.slice none 0 0)))] (kP [0,1,5,1000001] [1000001] []))
 (.own 5 9 1))
 (.seq (.reg false [gM 12 0,gI 13 (.bslice 1 1 [(.t 12)]),gM 6 13] (kP [1,5,6,1000001] [1000001] [5]))
 (.seq (.block 0 (.loop (.seq (.seq (.reg false [gM 14 6,gI 15 (.len (.t 14)),gI 16 (.bin .gtr (.t 15) (oI 0))] (kP [1,5,6,16,1000001] [1000001] [5]))
 (.cond (.t 16)
 .skip
 (.exit 0)))
 (.block 1 (.seq (.seq (.reg false [gI 7 (.mv (.v (.slice none 0 0)))] (kP [1,5,6,7,1000001] [1000001] [5]))
 (.own 7 9 1))
 (.seq (.seq (.reg false [gM 17 6,gI 18 (.len (.t 17)),gI 19 (.mv (oI 0))] (kP [1,5,7,17,18,19,1000001] [1000001] [5,7]))
 (.block 2 (.loop (.seq (.reg false [gI 20 (.bin .lss (.t 19) (.t 18))] (kP [1,5,7,17,18,19,20,1000001] [1000001] [5,7]))
 (.seq (.cond (.t 20)
 .skip
 (.exit 2))
 (.seq (.block 3 (.seq (.reg false [gI 21 (.iadr 1 (.t 17) (.t 19)),gI 22 (.load false 1 (.t 21)),gM 9 22] (kP [1,5,7,9,17,18,19,1000001] [1000001] [5,7]))
 (.seq (.reg false [gM 23 1,gM 24 9,gI 25 (.call (.t 23) [(.t 24)]),gI 26 (.len (.t 25)),gI 27 (.mv (oI 0))] (kP [1,5,7,17,18,19,25,26,27,1000001] [1000001] [5,7]))
 (.block 4 (.loop (.seq (.reg false [gI 28 (.bin .lss (.t 27) (.t 26))] (kP [1,5,7,17,18,19,25,26,27,28,1000001] [1000001] [5,7]))
 (.seq (.cond (.t 28)
 .skip
 (.exit 4))
 (.seq (.block 5 (.seq (.reg false [gI 29 (.iadr 1 (.t 25) (.t 27)),gI 30 (.load false 1 (.t 29)),gM 11 30] (kP [1,5,7,11,17,18,19,25,26,27,1000001] [1000001] [5,7]))
 (.seq (.reg false [gM 31 5,gM 32 11,gI 33 (.call (.f 39) [(.t 31),(.t 32)]),gI 34 (.un .not (.t 33))] (kP [1,5,7,11,17,18,19,25,26,27,34,1000001] [1000001] [5,7]))
 (.cond (.t 34)
 (.reg false [gM 35 5,gM 36 11,gI 37 (.bslice 1 1 [(.t 36)]),gI 38 (.append 9 1 16 (.t 35) (.t 37)),gM 39 7,gM 40 11,gI 41 (.bslice 1 1 [(.t 40)]),gI 42 (.append 9 1 16 (.t 39) (.t 41)),gM 5 38,gM 7 42] (kP [1,5,7,17,18,19,25,26,27,1000001] [1000001] [5,7]))
 .skip))))
 (.reg false [gI 43 (.bin .add (.t 27) (oI 1)),gM 27 43] (kP [1,5,7,17,18,19,25,26,27,1000001] [1000001] [5,7]))))))))))
 (.reg false [gI 44 (.bin .add (.t 19) (oI 1)),gM 19 44] (kP [1,5,7,17,18,19,1000001] [1000001] [5,7]))))))))
 (.reg false [gM 45 7,gM 6 45] (kP [1,5,6,1000001] [1000001] [5]))))))))
 (.seq (.reg false [gM 46 5,gI 47 (.callm (.f 90) [(.t 46)] ⟨[],[5],[],[5],[5]⟩)] (kP [5] [1000001] [5]))
 (.seq (.reg false [gM 48 5,gM 4 48] (kP [4] [1000001] [5]))
 .ret))))))
theorem fcm_linked : FmT Tryz.prog 55 Tryz.f55 C_linked [.t 4] := fcm_mk [aN [0,1,1000001] [1000001] [5],⟨(kP [0,1,5,1000001] [1000001] []),[(5,9,1)],[],[],[]⟩,aN [1,5,6,1000001] [1000001] [5],aN [1,5,6,16,1000001] [1000001] [5],⟨(kP [1,5,6,7,1000001] [1000001] [5]),[(7,9,1)],[],[],[]⟩,aN [1,5,7,17,18,19,1000001] [1000001] [5,7],aN [1,5,7,17,18,19,20,1000001] [1000001] [5,7],aN [1,5,7,9,17,18,19,1000001] [1000001] [5,7],aN [1,5,7,17,18,19,25,26,27,1000001] [1000001] [5,7],aN [1,5,7,17,18,19,25,26,27,28,1000001] [1000001] [5,7],aN [1,5,7,11,17,18,19,25,26,27,1000001] [1000001] [5,7],aN [1,5,7,11,17,18,19,25,26,27,34,1000001] [1000001] [5,7],aN [1,5,7,17,18,19,25,26,27,1000001] [1000001] [5,7],aN [1,5,7,17,18,19,25,26,27,1000001] [1000001] [5,7],aN [1,5,7,17,18,19,1000001] [1000001] [5,7],aN [1,5,6,1000001] [1000001] [5],⟨(kP [5] [1000001] [5]),[],[],[],[(47,⟨[],[5],[],[5],[5]⟩)]⟩,aN [4] [1000001] [5]] Tryz.func55 (by kernel_rfl)
def C_srcOf : AC := (.seq (.reg false [gI 2 (.box (.t 0)),gI 4 (.mv (.v (.slice none 0 0)))] (kP [1,2] [2] []))
 (.seq (.reg false [gM 5 1,gI 6 (.mkfn 56 [(.t 2)]),gI 7 (.callm (.f 55) [(.t 5),(.t 6)] ⟨[2],[],[2],[605],[]⟩),gM 4 7] (kP [2,4] [2] []))
 .ret))
theorem fc_srcOf : FcT Tryz.prog 18 Tryz.f18 C_srcOf [.t 4] := fc_mk [aN [1,2] [2] [],⟨(kP [2,4] [2] []),[],[],[],[(7,⟨[2],[],[2],[605],[]⟩)]⟩] Tryz.func18 (by kernel_rfl)
def C_prdOf : AC := (.seq (.reg false [gI 2 (.box (.t 0)),gI 4 (.mv (.v (.slice none 0 0)))] (kP [1,2] [2] [605]))
 (.seq (.reg false [gM 5 1,gI 6 (.mkfn 57 [(.t 2)]),gI 7 (.callm (.f 55) [(.t 5),(.t 6)] ⟨[2],[],[2],[605],[]⟩),gM 4 7] (kP [2,4] [2] [605]))
 .ret))
theorem fcm_prdOf : FmT Tryz.prog 19 Tryz.f19 C_prdOf [.t 4] := fcm_mk [aN [1,2] [2] [605],⟨(kP [2,4] [2] [605]),[],[],[],[(7,⟨[2],[],[2],[605],[]⟩)]⟩] Tryz.func19 (by kernel_rfl)
def C_prdOf1 : AC := (.seq (.reg false [gI 3 (.mv (.v (.slice none 0 0)))] (kP [0,1] [] []))
 (.seq (.seq (.reg false [gI 4 (.mv (.v (.slice none 0 0)))] (kP [0,1,4] [] []))
 (.own 4 9 1))
 (.seq (.seq (.reg false [gI 7 (.load false 1 (.t 1)),gI 8 (.len (.t 7)),gI 9 (.mv (oI 0))] (kP [0,4,7,8,9] [] [4]))
 (.block 0 (.loop (.seq (.reg false [gI 10 (.bin .lss (.t 9) (.t 8))] (kP [0,4,7,8,9,10] [] [4]))
 (.seq (.cond (.t 10)
 .skip
 (.exit 0))
 (.seq (.block 1 (.seq (.reg false [gI 11 (.iadr 3 (.t 7) (.t 9)),gI 12 (.load true 3 (.t 11)),gI 6 (.alloc [(.string (ByteArray.mk #[])),(.string (ByteArray.mk #[])),(.int .i64 (0))]),gN (.store 3 (.t 6) (.t 12))] (kP [0,4,6,7,8,9] [6] [4]))
 (.seq (.reg false [gI 13 (.fadr 0 (.t 6)),gI 14 (.load false 1 (.t 13)),gM 15 0,gI 16 (.bin .eql (.t 14) (.t 15))] (kP [0,4,6,7,8,9,16] [6] [4]))
 (.cond (.t 16)
 (.reg false [gM 17 4,gI 18 (.fadr 1 (.t 6)),gI 19 (.load false 1 (.t 18)),gI 20 (.bslice 1 1 [(.t 19)]),gI 21 (.append 9 1 16 (.t 17) (.t 20)),gM 4 21] (kP [0,4,7,8,9] [] [4]))
 .skip))))
 (.reg false [gI 22 (.bin .add (.t 9) (oI 1)),gM 9 22] (kP [0,4,7,8,9] [] [4]))))))))
 (.seq (.reg false [gM 23 4,gM 3 23] (kP [3] [] []))
 .ret))))
theorem fc_prdOf1 : FcT Tryz.prog 57 Tryz.f57 C_prdOf1 [.t 3] := fc_mk [aN [0,1] [] [],⟨(kP [0,1,4] [] []),[(4,9,1)],[],[],[]⟩,aN [0,4,7,8,9] [] [4],aN [0,4,7,8,9,10] [] [4],aN [0,4,6,7,8,9] [6] [4],aN [0,4,6,7,8,9,16] [6] [4],aN [0,4,7,8,9] [] [4],aN [0,4,7,8,9] [] [4],aN [3] [] []] Tryz.func57 (by kernel_rfl)
def C_srcOf1 : AC := (.seq (.reg false [gI 3 (.mv (.v (.slice none 0 0)))] (kP [0,1] [] []))
 (.seq (.seq (.reg false [gI 4 (.mv (.v (.slice none 0 0)))] (kP [0,1,4] [] []))
 (.own 4 9 1))
 (.seq (.seq (.reg false [gI 7 (.load false 1 (.t 1)),gI 8 (.len (.t 7)),gI 9 (.mv (oI 0))] (kP [0,4,7,8,9] [] [4]))
 (.block 0 (.loop (.seq (.reg false [gI 10 (.bin .lss (.t 9) (.t 8))] (kP [0,4,7,8,9,10] [] [4]))
 (.seq (.cond (.t 10)
 .skip
 (.exit 0))
 (.seq (.block 1 (.seq (.reg false [gI 11 (.iadr 3 (.t 7) (.t 9)),gI 12 (.load true 3 (.t 11)),gI 6 (.alloc [(.string (ByteArray.mk #[])),(.string (ByteArray.mk #[])),(.int .i64 (0))]),gN (.store 3 (.t 6) (.t 12))] (kP [0,4,6,7,8,9] [6] [4]))
 (.seq (.reg false [gI 13 (.fadr 1 (.t 6)),gI 14 (.load false 1 (.t 13)),gM 15 0,gI 16 (.bin .eql (.t 14) (.t 15))] (kP [0,4,6,7,8,9,16] [6] [4]))
 (.cond (.t 16)
 (.reg false [gM 17 4,gI 18 (.fadr 0 (.t 6)),gI 19 (.load false 1 (.t 18)),gI 20 (.bslice 1 1 [(.t 19)]),gI 21 (.append 9 1 16 (.t 17) (.t 20)),gM 4 21] (kP [0,4,7,8,9] [] [4]))
 .skip))))
 (.reg false [gI 22 (.bin .add (.t 9) (oI 1)),gM 9 22] (kP [0,4,7,8,9] [] [4]))))))))
 (.seq (.reg false [gM 23 4,gM 3 23] (kP [3] [] []))
 .ret))))
theorem fc_srcOf1 : FcT Tryz.prog 56 Tryz.f56 C_srcOf1 [.t 3] := fc_mk [aN [0,1] [] [],⟨(kP [0,1,4] [] []),[(4,9,1)],[],[],[]⟩,aN [0,4,7,8,9] [] [4],aN [0,4,7,8,9,10] [] [4],aN [0,4,6,7,8,9] [6] [4],aN [0,4,6,7,8,9,16] [6] [4],aN [0,4,7,8,9] [] [4],aN [0,4,7,8,9] [] [4],aN [3] [] []] Tryz.func56 (by kernel_rfl)
def C_trF : AC := (.seq (.reg false [gI 2 (.mv (oI 0))] (kP [0] [] []))
 (.seq (.seq (.reg false [gM 7 0,gI 8 (.len (.t 7)),gI 9 (.bin .gtr (.t 8) (oI 500))] (kP [0,9] [] []))
 (.cond (.t 9)
 (.seq (.reg false [gI 2 (.mv (oI 2))] (kP [2] [] []))
 .ret)
 .skip))
 (.seq (.seq (.reg false [gM 10 0,gI 11 (.len (.t 10)),gI 12 (.mv (oI 0))] (kP [0,10,11,12] [] []))
 (.block 0 (.loop (.seq (.reg false [gI 13 (.bin .lss (.t 12) (.t 11))] (kP [0,10,11,12,13] [] []))
 (.seq (.cond (.t 13)
 .skip
 (.exit 0))
 (.seq (.block 1 (.seq (.reg false [gM 14 12,gI 15 (.iadr 3 (.t 10) (.t 12)),gI 16 (.load true 3 (.t 15)),gI 4 (.alloc [(.string (ByteArray.mk #[])),(.string (ByteArray.mk #[])),(.int .i64 (0))]),gM 3 14,gN (.store 3 (.t 4) (.t 16))] (kP [0,3,4,10,11,12] [4] []))
 (.block 2 (.seq (.reg false [gI 18 (.fadr 0 (.t 4)),gI 19 (.load false 1 (.t 18)),gI 20 (.call (.f 36) [(.t 19)]),gI 21 (.un .not (.t 20)),gM 22 21,gG 23 22 false (.fadr 1 (.t 4)),gG 24 22 false (.load false 1 (.t 23)),gG 25 22 false (.call (.f 36) [(.t 24)]),gG 26 22 false (.un .not (.t 25)),gI 27 (.pick (.t 22) (.v (.bool true)) (.t 26)),gM 17 27] (kP [0,3,4,10,11,12,17] [4] []))
 (.cond (.t 17)
 (.seq (.reg false [gI 2 (.mv (oI 5))] (kP [2] [] []))
 .ret)
 (.seq (.reg false [gI 29 (.fadr 0 (.t 4)),gI 30 (.load false 1 (.t 29)),gI 31 (.fadr 1 (.t 4)),gI 32 (.load false 1 (.t 31)),gI 33 (.bin .eql (.t 30) (.t 32)),gM 28 33] (kP [0,3,4,10,11,12,28] [4] []))
 (.cond (.t 28)
 (.seq (.reg false [gI 2 (.mv (oI 3))] (kP [2] [] []))
 .ret)
 (.seq (.reg false [gI 35 (.fadr 2 (.t 4)),gI 36 (.load false 1 (.t 35)),gI 37 (.call (.f 37) [(.t 36),(oI 1),(oI 1000000)]),gI 38 (.un .not (.t 37)),gM 34 38] (kP [0,3,4,10,11,12,34] [4] []))
 (.cond (.t 34)
 (.seq (.reg false [gI 2 (.mv (oI 1))] (kP [2] [] []))
 .ret)
 (.seq (.reg true [gM 40 3,gI 41 (.bin .gtr (.t 40) (oI 0)),gM 42 41,gG 43 42 true (.mv (.t 0)),gG 44 42 true (.mv (.t 3)),gG 45 42 true (.bin .sub (.t 44) (oI 1)),gG 46 42 true (.iadr 3 (.t 43) (.t 45)),gG 47 42 true (.load true 3 (.t 46)),gG 48 42 true (.load true 3 (.t 4)),gG 49 42 true (.call (.f 38) [(.t 47),(.t 48)]),gG 50 42 true (.bin .geq (.t 49) (oI 0)),gI 51 (.pick (.t 42) (.t 50) (.v (.bool false))),gM 39 51] (kP [0,10,11,12,39] [] []))
 (.cond (.t 39)
 (.seq (.reg false [gI 2 (.mv (oI 7))] (kP [2] [] []))
 .ret)
 .skip)))))))))))
 (.reg false [gI 52 (.bin .add (.t 12) (oI 1)),gM 12 52] (kP [0,10,11,12] [] []))))))))
 (.seq (.seq (.reg false [gM 53 0,gI 54 (.len (.t 53)),gI 55 (.mv (oI 0))] (kP [0,53,54,55] [] []))
 (.block 3 (.loop (.seq (.reg false [gI 56 (.bin .lss (.t 55) (.t 54))] (kP [0,53,54,55,56] [] []))
 (.seq (.cond (.t 56)
 .skip
 (.exit 3))
 (.seq (.block 4 (.seq (.reg false [gI 57 (.iadr 3 (.t 53) (.t 55)),gI 58 (.load true 3 (.t 57)),gI 6 (.alloc [(.string (ByteArray.mk #[])),(.string (ByteArray.mk #[])),(.int .i64 (0))]),gN (.store 3 (.t 6) (.t 58))] (kP [0,6,53,54,55] [6] []))
 (.seq (.reg true [gM 59 0,gI 60 (.fadr 0 (.t 6)),gI 61 (.load false 1 (.t 60)),gI 62 (.call (.f 18) [(.t 59),(.t 61)]),gI 63 (.fadr 0 (.t 6)),gI 64 (.load false 1 (.t 63)),gI 65 (.call (.f 39) [(.t 62),(.t 64)])] (kP [0,53,54,55,65] [] []))
 (.cond (.t 65)
 (.seq (.reg false [gI 2 (.mv (oI 14))] (kP [2] [] []))
 .ret)
 .skip))))
 (.reg false [gI 66 (.bin .add (.t 55) (oI 1)),gM 55 66] (kP [0,53,54,55] [] []))))))))
 (.seq (.reg false [gI 2 (.mv (oI 0))] (kP [2] [] []))
 .ret)))))
theorem fc_trF : FcT Tryz.prog 9 Tryz.f9 C_trF [.t 2] := fc_mk [aN [0] [] [],aN [0,9] [] [],aN [2] [] [],aN [0,10,11,12] [] [],aN [0,10,11,12,13] [] [],aN [0,3,4,10,11,12] [4] [],aN [0,3,4,10,11,12,17] [4] [],aN [2] [] [],aN [0,3,4,10,11,12,28] [4] [],aN [2] [] [],aN [0,3,4,10,11,12,34] [4] [],aN [2] [] [],aN [0,10,11,12,39] [] [],aN [2] [] [],aN [0,10,11,12] [] [],aN [0,53,54,55] [] [],aN [0,53,54,55,56] [] [],aN [0,6,53,54,55] [6] [],aN [0,53,54,55,65] [] [],aN [2] [] [],aN [0,53,54,55] [] [],aN [2] [] []] Tryz.func9 (by kernel_rfl)
def C_rbyT : AC := (.seq (.reg false [gI 2 (.box (.t 0)),gI 3 (.box (.t 1)),gI 4 (.mv (oI 0))] (kP [2,3] [2,3] []))
 (.seq (.reg true [gI 5 (.fadr 0 (.t 2)),gI 6 (.load false 1 (.t 5)),gI 7 (.fadr 0 (.t 3)),gI 8 (.load false 1 (.t 7)),gI 9 (.call (.f 88) [(.t 6),(.t 8)]),gI 10 (.fadr 1 (.t 2)),gI 11 (.load false 1 (.t 10)),gI 12 (.fadr 1 (.t 3)),gI 13 (.load false 1 (.t 12)),gI 14 (.call (.f 88) [(.t 11),(.t 13)]),gI 15 (.bslice 1 2 [(.t 9),(.t 14)]),gI 16 (.call (.f 87) [(.t 15)]),gM 4 16] (kP [4] [] []))
 .ret))
theorem fc_rbyT : FcT Tryz.prog 38 Tryz.f38 C_rbyT [.t 4] := fc_mk [aN [2,3] [2,3] [],aN [4] [] []] Tryz.func38 (by kernel_rfl)
theorem indexK_fc (w : List ByteArray) (k : ByteArray) (hl : w.length ≤ 1000000) : FC Tryz.prog 89 none [strs false w, sv k] (fun _ r => r = iv (idxG (fun s => decide (s = k)) 0 w)) := by
 refine fc_indexS (by simp +arith) ?_
 unfold C_indexS
 simp (maxSteps := 1000000) (disch := omega) only [go_sem]
 refine ex_loop1 (fun i => ⟨tabV [(0, strs false w), (1, sv k), (7, iv w.length), (8, iv i)], tabO [], tabO []⟩) (fun i => 0 ≤ i ∧ i ≤ w.length ∧ idxG (fun s => decide (s = k)) i (w.drop i.toNat) = idxG (fun s => decide (s = k)) 0 w) (fun i => (w.length - i).toNat) 0 ⟨by omega, by omega, rfl⟩ rfl ?_
 rintro i ⟨g1, g2, g3⟩
 by_cases hi : i < w.length
 ·have e2 : (i + 1).toNat = i.toNat + 1 := by omega
  have em := getD_str w i g1 hi
  rw [drop_cons w i.toNat (by omega), idxG, ← e2] at g3
  by_cases c1 : w.getD i.toNat default = k
  ·rw [if_pos (decide_eq_true c1)] at g3
   rw [← g3]
   have c2 : k = w.getD i.toNat default := c1.symm
   simp (maxSteps := 1000000) (disch := omega) only [go_sem]
  ·rw [if_neg (by simpa using c1)] at g3
   have c2 : ¬k = w.getD i.toNat default := fun h => c1 h.symm
   simp (maxSteps := 1000000) (disch := omega) only [go_sem]
   exact ⟨i + 1, rfl, ⟨by omega, by omega, g3⟩, by omega⟩
 ·rw [List.drop_eq_nil_of_le (by omega), idxG] at g3
  rw [← g3]
  simp (maxSteps := 1000000) (disch := omega) only [go_sem]
theorem idxG_mem (k : ByteArray) (w : List ByteArray) : decide (0 ≤ idxG (fun s => decide (s = k)) 0 w) = decide (k ∈ w) := by
 by_cases h : k ∈ w
 ·rw [decide_eq_true h]
  apply decide_eq_true
  rcases idxG_rng (fun s => decide (s = k)) w 0 with h1 | h1
  ·exfalso
   have key : ∀ (l : List ByteArray) (i : Int), 0 ≤ i → k ∈ l → 0 ≤ idxG (fun s => decide (s = k)) i l := fun l => by
    induction l with
    | nil => intro i _ hm; simp at hm
    | cons x l ih =>
     intro i hi hm
     rw [idxG]
     by_cases e : x = k
     ·rw [if_pos (decide_eq_true e)]; exact hi
     ·rw [if_neg (by simpa using e)]
      exact ih (i + 1) (by omega) ((List.mem_cons.1 hm).resolve_left (fun e' => e e'.symm))
   have := key w 0 (by omega) h
   omega
  ·exact h1.1
 ·rw [decide_eq_false h]
  apply decide_eq_false
  intro h2
  have h3 := idxG_at (fun s => decide (s = k)) w 0 (by omega) h2
  rcases idxG_rng (fun s => decide (s = k)) w 0 with h1 | h1
  ·omega
  ·have h4 := getD_memB w (idxG (fun s => decide (s = k)) 0 w - 0).toNat (by omega)
   rw [of_decide_eq_true h3] at h4
   exact h h4
theorem containsK_fc (w : List ByteArray) (k : ByteArray) (hl : w.length ≤ 1000000) : FC Tryz.prog 39 none [strs false w, sv k] (fun _ r => r = bv (decide (k ∈ w))) := by
 refine fc_containsS (by simp +arith) ?_
 have hc := indexK_fc w k hl
 rw [← idxG_mem]
 unfold C_containsS
 simp (maxSteps := 1000000) (disch := omega) only [go_sem]
 refine CALL_det hc (.inl rfl) ?_
 simp (maxSteps := 1000000) (disch := omega) only [go_sem]
def qLk (k : Nat) : Nat := if k = 5 then 1000000 else if k = 1000000 then 5 else k
theorem qLk_q (k : Nat) : qLk (qLk k) = k := by unfold qLk; (repeat' split) <;> omega
theorem inB_mono : ∀ (l : List ByteArray) (p : List ByteArray × List ByteArray), p.1.length ≤ (l.foldl inB p).1.length ∧ p.2.length ≤ (l.foldl inB p).2.length
 | [], p => ⟨Nat.le_refl _, Nat.le_refl _⟩
 | x :: l, p => by
  have h := inB_mono l (inB p x)
  have h1 : p.1.length ≤ (inB p x).1.length ∧ p.2.length ≤ (inB p x).2.length := by
   unfold inB; split
   ·exact ⟨Nat.le_refl _, Nat.le_refl _⟩
   ·simp
  rw [List.foldl_cons]; omega
theorem rowF_mono (st : ByteArray → List ByteArray) : ∀ (r : List ByteArray) (p : List ByteArray × List ByteArray), p.1.length ≤ (rowF st r p).1.length ∧ p.2.length ≤ (rowF st r p).2.length
 | [], p => ⟨Nat.le_refl _, Nat.le_refl _⟩
 | x :: r, p => by
  have h := rowF_mono st r ((st x).foldl inB p)
  have h1 := inB_mono (st x) p
  show p.1.length ≤ (rowF st r ((st x).foldl inB p)).1.length ∧ _ ≤ (rowF st r ((st x).foldl inB p)).2.length
  omega
theorem frE_strC (l : List ByteArray) : frE (l.map strC) = true := frE_map (fun _ => rfl) l
theorem datE_strC (l : List ByteArray) : datE (l.map strC) = l.map strC := datE_map (fun _ => rfl) l
attribute [go_sem] frE_strC datE_strC
abbrev stRow (v : Nat) (l : List ByteArray) : Row := ⟨v, 9, 1, l.map strC⟩
def lk0 (f : FuncId) (l : List Trf) (out row : List ByteArray) : AS := ⟨tabV [(1, .one (.fn f [.bx 1000001 0])), (5, .one (.ow 5 0)), (6, strs true row), (1000001, .any)], tabO [(1000001, [.sl false 3 (l.map trC)])], tabO [(5, stRow 0 out)]⟩
def lk1 (f : FuncId) (l : List Trf) (row : List ByteArray) (i : Int) (out nx : List ByteArray) : AS := ⟨tabV [(1, .one (.fn f [.bx 1000001 0])), (5, .one (.ow 5 0)), (7, .one (.ow 7 0)), (17, strs true row), (18, iv row.length), (19, iv i), (1000001, .any)], tabO [(1000001, [.sl false 3 (l.map trC)])], tabO [(5, stRow 0 out), (7, stRow 0 nx)]⟩
def lk2 (f : FuncId) (l : List Trf) (row : List ByteArray) (i : Int) (ys : List ByteArray) (j : Int) (out nx : List ByteArray) : AS := ⟨tabV [(1, .one (.fn f [.bx 1000001 0])), (5, .one (.ow 5 0)), (7, .one (.ow 7 0)), (17, strs true row), (18, iv row.length), (19, iv i), (25, strs true ys), (26, iv ys.length), (27, iv j), (1000001, .any)], tabO [(1000001, [.sl false 3 (l.map trC)])], tabO [(5, stRow 0 out), (7, stRow 0 nx)]⟩
theorem linked_fcm (f : FuncId) (l : List Trf) (st : ByteArray → List ByteArray) (N : List ByteArray) (b : ByteArray) (hN : ∀ k, ∀ y ∈ st k, y ∈ N) (hNl : N.length ≤ 100000) (hsl : ∀ k, (st k).length ≤ 100000)
  (hst : ∀ x, FC Tryz.prog f none [sv x, .one (.ep [.sl false 3 (l.map trC)])] (fun _ r => r = strs true (st x))) : FCM Tryz.prog 55 ⟨[(1000001, [.sl false 3 (l.map trC)])], []⟩ [sv b, .one (.fn f [.bx 1000001 0])] (fun H r => H = ⟨[(1000001, [.sl false 3 (l.map trC)])], [(5, stRow 0 (srtS (lnkF st (N.length + 1) [] [b])))]⟩ ∧ r = .one (.ow 5 0)) := by
 refine fcm_linked (K := ⟨[], [1000001], [5]⟩) (by simp +arith) (by simp [XK]) (by simp) ?_
 generalize hR : lnkF st (N.length + 1) [] [b] = R
 have hRl : R.length ≤ N.length := by
  rw [← hR]
  have hc := lnkF_clo (st := st) (b := b) N hN (N.length + 1) [] [b] (clo_beg st b) (by simp) (by simp)
  have hs : ∀ s ∈ lnkF st (N.length + 1) [] [b], s ∈ N := fun s hs => by
   obtain ⟨x, _, hx⟩ := (hc.re s hs).last
   exact hN x s hx
  exact nodup_le _ _ hc.nd hs
 unfold C_linked
 simp (maxSteps := 1000000) (disch := omega) only [go_sem]
 refine ex_loop3 (fun (n : Nat) out row => lk0 f l out row) (fun n out row => lnkF st n out row = R ∧ Clo st b out row ∧ (∀ s ∈ out, s ∈ N) ∧ (row ≠ [] → N.length + 1 ≤ n + out.length) ∧ row.length ≤ N.length + 1) (fun n _ _ => n) (N.length + 1) [] [b] ⟨hR, clo_beg st b, by simp, by simp, by simp⟩ rfl ?_
 rintro n out row ⟨g1, g2, g3, g4, g5⟩
 unfold lk0
 have hol := nodup_le out N g2.nd g3
 cases row with
 | nil =>
  have e : out = R := by rw [← g1]; cases n <;> rfl
  subst e
  simp (maxSteps := 1000000) (disch := omega) only [go_sem]
  refine ⟨rfl, CALLM_rnES ⟨[], [(5, stRow 0 (srtS out))]⟩ (.tu []) qLk qLk qLk_q qLk_q (sortS_all out (by omega)) (by simp) rfl rfl rfl rfl rfl ⟨rfl, rfl⟩ ?_⟩
  simp (maxSteps := 1000000) (disch := omega) only [go_sem]
 | cons x r =>
  have hn : ∃ m, n = m + 1 := by
   have := g4 (by simp)
   cases n with
   | zero => omega
   | succ m => exact ⟨m, rfl⟩
  obtain ⟨m, rfl⟩ := hn
  rw [lnkF] at g1
  generalize hrow : x :: r = row at *
  have hrl : 0 < row.length := by rw [← hrow]; simp
  obtain ⟨nw, q1, q2, q3⟩ := rowF_clo N hN row out [] (by simpa using g2) g3
  rw [q1] at g1
  simp only [List.nil_append] at g1 q1 q2
  have hfl := nodup_le _ N q2.nd q3
  rw [List.length_append] at hfl
  have g4' := g4 (by rw [← hrow]; simp)
  simp (maxSteps := 1000000) (disch := omega) only [go_sem]
  refine ex_loop3 (fun i o nx => lk1 f l row i o nx) (fun i o nx => 0 ≤ i ∧ i ≤ row.length ∧ rowF st (row.drop i.toNat) (o, nx) = (out ++ nw, nw)) (fun i _ _ => (row.length - i).toNat) 0 out [] ⟨by omega, by omega, q1⟩ rfl ?_
  rintro i o nx ⟨h1, h2, h3⟩
  unfold lk1
  by_cases hi : i < row.length
  ·have e2 : (i + 1).toNat = i.toNat + 1 := by omega
   have em := getD_str row i h1 hi
   rw [drop_cons row i.toNat (by omega), ← e2] at h3
   have h3 : rowF st (row.drop (i + 1).toNat) ((st (row.getD i.toNat default)).foldl inB (o, nx)) = (out ++ nw, nw) := h3
   have hs := hst (row.getD i.toNat default)
   have hyl := hsl (row.getD i.toNat default)
   generalize st (row.getD i.toNat default) = ys at hs h3 hyl
   have hmo := rowF_mono st (row.drop (i + 1).toNat) (ys.foldl inB (o, nx))
   rw [h3] at hmo
   simp only [List.length_append] at hmo
   generalize hQ : ys.foldl inB (o, nx) = Q at h3 hmo
   simp (maxSteps := 1000000) (disch := omega) only [go_sem]
   refine CALL_det hs (.inl rfl) ?_
   simp (maxSteps := 1000000) (disch := omega) only [go_sem]
   refine ex_loop3 (fun j o nx => lk2 f l row i ys j o nx) (fun j o nx => 0 ≤ j ∧ j ≤ ys.length ∧ (ys.drop j.toNat).foldl inB (o, nx) = Q) (fun j _ _ => (ys.length - j).toNat) 0 o nx ⟨by omega, by omega, hQ⟩ rfl ?_
   rintro j o2 nx2 ⟨k1, k2, k3⟩
   unfold lk2
   by_cases hj : j < ys.length
   ·have e3 : (j + 1).toNat = j.toNat + 1 := by omega
    have em2 := getD_str ys j k1 hj
    have hm2 := inB_mono (ys.drop j.toNat) (o2, nx2)
    rw [k3] at hm2
    simp only at hm2
    rw [drop_cons ys j.toNat (by omega), ← e3, List.foldl_cons] at k3
    have hc := containsK_fc o2 (ys.getD j.toNat default) (by omega)
    by_cases c1 : ys.getD j.toNat default ∈ o2
    ·rw [show inB (o2, nx2) (ys.getD j.toNat default) = (o2, nx2) from if_pos c1] at k3
     rw [decide_eq_true c1] at hc
     simp (maxSteps := 1000000) (disch := omega) only [go_sem]
     refine CALL_det hc (.inl rfl) ?_
     simp (maxSteps := 1000000) (disch := omega) only [go_sem]
     exact ⟨j + 1, o2, nx2, rfl, ⟨by omega, by omega, k3⟩, by omega⟩
    ·rw [show inB (o2, nx2) (ys.getD j.toNat default) = (o2 ++ [ys.getD j.toNat default], nx2 ++ [ys.getD j.toNat default]) from if_neg c1] at k3
     rw [decide_eq_false c1] at hc
     simp (maxSteps := 1000000) (disch := omega) only [go_sem]
     refine CALL_det hc (.inl rfl) ?_
     simp (maxSteps := 1000000) (disch := omega) only [go_sem]
     exact ⟨j + 1, o2 ++ [ys.getD j.toNat default], nx2 ++ [ys.getD j.toNat default], by simp only [List.map_append, List.map_cons, List.map_nil, strC_eq, stRow], ⟨by omega, by omega, k3⟩, by omega⟩
   ·rw [List.drop_eq_nil_of_le (by omega), List.foldl_nil] at k3
    subst k3
    simp (maxSteps := 1000000) (disch := omega) only [go_sem]
    exact ⟨i + 1, o2, nx2, rfl, ⟨by omega, by omega, h3⟩, by omega⟩
  ·rw [List.drop_eq_nil_of_le (by omega)] at h3
   have h3 : (o, nx) = (out ++ nw, nw) := h3
   injection h3 with h4 h5
   subst h4; subst h5
   simp (maxSteps := 1000000) (disch := omega) only [go_sem]
   refine ⟨m, out ++ nx, nx, rfl, ⟨g1, q2, q3, fun hne => ?_, by omega⟩, by omega⟩
   have : 0 < nx.length := List.length_pos_iff.2 hne
   rw [List.length_append]; omega
theorem srcOf1_fc (l : List Trf) (hl : l.length ≤ 100000) (x : ByteArray) : FC Tryz.prog 56 none [sv x, .one (.ep [.sl false 3 (l.map trC)])] (fun _ r => r = strs true (stI l x)) := by
 refine fc_srcOf1 (by simp +arith) ?_
 unfold C_srcOf1 stI
 simp (maxSteps := 1000000) (disch := omega) only [go_sem]
 refine ex_loop2 (fun i out => ⟨tabV [(0, sv x), (4, .one (.ow 4 0)), (7, trs false l), (8, iv l.length), (9, iv i)], tabO [], tabO [(4, stRow 0 out)]⟩) (fun i out => 0 ≤ i ∧ i ≤ l.length ∧ (out.length : Int) ≤ i ∧ out ++ ((l.drop i.toNat).filter fun y => decide (y.to = x)).map (·.frm) = (l.filter fun y => decide (y.to = x)).map (·.frm)) (fun i _ => (l.length - i).toNat) 0 [] ⟨by omega, by omega, by simp, rfl⟩ rfl ?_
 rintro i out ⟨g1, g2, g4, g3⟩
 by_cases hi : i < l.length
 ·have e2 : (i + 1).toNat = i.toNat + 1 := by omega
  have em := getD_map_at trC l i [] g1 hi
  rw [drop_cons l i.toNat (by omega), List.filter_cons, ← e2] at g3
  by_cases c1 : (l.getD i.toNat default).to = x
  ·rw [if_pos (decide_eq_true c1), List.map_cons] at g3
   simp (maxSteps := 1000000) (disch := omega) only [go_sem]
   exact ⟨i + 1, out ++ [(l.getD i.toNat default).frm], by simp only [List.map_append, List.map_cons, List.map_nil, strC_eq, stRow], ⟨by omega, by omega, by simp; omega, by rw [List.append_assoc]; exact g3⟩, by omega⟩
  ·rw [if_neg (by simpa using c1)] at g3
   simp (maxSteps := 1000000) (disch := omega) only [go_sem]
   exact ⟨i + 1, out, rfl, ⟨by omega, by omega, by omega, g3⟩, by omega⟩
 ·rw [List.drop_eq_nil_of_le (by omega)] at g3
  rw [← g3]
  simp (maxSteps := 1000000) (disch := omega) only [go_sem]
  simp
theorem stI_len (l : List Trf) (k : ByteArray) : (stI l k).length ≤ l.length := by
 unfold stI; rw [List.length_map]; exact List.length_filter_le _ _
def lkP (k : Nat) : Nat := if k = 2 then 1000001 else if k = 1000001 then 2 else k
def lkQ (k : Nat) : Nat := if k = 605 then 5 else if k = 5 then 605 else k
theorem lkP_p (k : Nat) : lkP (lkP k) = k := by unfold lkP; (repeat' split) <;> omega
theorem lkQ_q (k : Nat) : lkQ (lkQ k) = k := by unfold lkQ; (repeat' split) <;> omega
theorem srcOf_fc (l : List Trf) (hl : l.length ≤ 100000) (b : ByteArray) : FC Tryz.prog 18 none [trs false l, sv b] (fun _ r => r = strs true (srtS (lnkL l b))) := by
 refine fc_srcOf (by simp +arith) ?_
 have h := linked_fcm 56 l (stI l) (l.map (·.frm)) b (fun k y hy => stI_sub l k y hy) (by simpa using hl) (fun k => Nat.le_trans (stI_len l k) hl) (srcOf1_fc l hl)
 rw [List.length_map, show lnkF (stI l) (l.length + 1) [] [b] = lnkL l b from rfl] at h
 unfold C_srcOf
 simp (maxSteps := 1000000) (disch := omega) only [go_sem]
 refine ⟨rfl, CALLM_rnE ⟨[(2, [.sl false 3 (l.map trC)])], [(605, stRow 0 (srtS (lnkL l b)))]⟩ (.one (.ow 605 0)) lkP lkQ lkP_p lkQ_q h (by simp) rfl rfl rfl rfl ⟨rfl, rfl⟩ ?_⟩
 simp (maxSteps := 1000000) (disch := omega) only [go_sem]
/-! ### products -/
theorem stO_len (l : List Trf) (k : ByteArray) : (stI (l.map Trf.inv) k).length ≤ l.length := by
 have := stI_len (l.map Trf.inv) k
 rwa [List.length_map] at this
theorem stO_eq (l : List Trf) (x : ByteArray) : stI (l.map Trf.inv) x = (l.filter fun y => decide (y.frm = x)).map (·.to) := by
 unfold stI
 rw [List.filter_map, List.map_map]
 rfl
theorem prdOf1_fc (l : List Trf) (hl : l.length ≤ 100000) (x : ByteArray) : FC Tryz.prog 57 none [sv x, .one (.ep [.sl false 3 (l.map trC)])] (fun _ r => r = strs true (stI (l.map Trf.inv) x)) := by
 refine fc_prdOf1 (by simp +arith) ?_
 rw [stO_eq]
 unfold C_prdOf1
 simp (maxSteps := 1000000) (disch := omega) only [go_sem]
 refine ex_loop2 (fun i out => ⟨tabV [(0, sv x), (4, .one (.ow 4 0)), (7, trs false l), (8, iv l.length), (9, iv i)], tabO [], tabO [(4, stRow 0 out)]⟩) (fun i out => 0 ≤ i ∧ i ≤ l.length ∧ (out.length : Int) ≤ i ∧ out ++ ((l.drop i.toNat).filter fun y => decide (y.frm = x)).map (·.to) = (l.filter fun y => decide (y.frm = x)).map (·.to)) (fun i _ => (l.length - i).toNat) 0 [] ⟨by omega, by omega, by simp, rfl⟩ rfl ?_
 rintro i out ⟨g1, g2, g4, g3⟩
 by_cases hi : i < l.length
 ·have e2 : (i + 1).toNat = i.toNat + 1 := by omega
  have em := getD_map_at trC l i [] g1 hi
  rw [drop_cons l i.toNat (by omega), List.filter_cons, ← e2] at g3
  by_cases c1 : (l.getD i.toNat default).frm = x
  ·rw [if_pos (decide_eq_true c1), List.map_cons] at g3
   simp (maxSteps := 1000000) (disch := omega) only [go_sem]
   exact ⟨i + 1, out ++ [(l.getD i.toNat default).to], by simp only [List.map_append, List.map_cons, List.map_nil, strC_eq, stRow], ⟨by omega, by omega, by simp; omega, by rw [List.append_assoc]; exact g3⟩, by omega⟩
  ·rw [if_neg (by simpa using c1)] at g3
   simp (maxSteps := 1000000) (disch := omega) only [go_sem]
   exact ⟨i + 1, out, rfl, ⟨by omega, by omega, by omega, g3⟩, by omega⟩
 ·rw [List.drop_eq_nil_of_le (by omega)] at g3
  rw [← g3]
  simp (maxSteps := 1000000) (disch := omega) only [go_sem]
  simp
theorem prdOf_fcm (l : List Trf) (hl : l.length ≤ 100000) (b : ByteArray) : FCM Tryz.prog 19 ⟨[], []⟩ [trs false l, sv b] (fun H r => H = ⟨[], [(605, stRow 0 (srtS (lnkL (l.map Trf.inv) b)))]⟩ ∧ r = .one (.ow 605 0)) := by
 refine fcm_prdOf (K := ⟨[], [], [605]⟩) (by simp +arith) (by simp) (by simp) ?_
 have h := linked_fcm 57 l (stI (l.map Trf.inv)) ((l.map Trf.inv).map (·.frm)) b (fun k y hy => stI_sub (l.map Trf.inv) k y hy) (by simpa using hl) (fun k => Nat.le_trans (stO_len l k) hl) (prdOf1_fc l hl)
 rw [List.length_map, List.length_map, show lnkF (stI (l.map Trf.inv)) (l.length + 1) [] [b] = lnkL (l.map Trf.inv) b from by unfold lnkL; rw [List.length_map]] at h
 unfold C_prdOf
 simp (maxSteps := 1000000) (disch := omega) only [go_sem]
 refine ⟨rfl, CALLM_rnE ⟨[(2, [.sl false 3 (l.map trC)])], [(605, stRow 0 (srtS (lnkL (l.map Trf.inv) b)))]⟩ (.one (.ow 605 0)) lkP lkQ lkP_p lkQ_q h (by simp) rfl rfl rfl rfl ⟨rfl, rfl⟩ ?_⟩
 simp (maxSteps := 1000000) (disch := omega) only [go_sem]
theorem rbyT_fc (x y : Trf) : FC Tryz.prog 38 none [.ag (trC x), .ag (trC y)] (fun _ r => r = iv (cmpT x y)) := by
 refine fc_rbyT (by simp +arith) ?_
 unfold C_rbyT
 have ho := orI_fc [cmpS x.frm y.frm, cmpS x.to y.to] (by simp)
 rw [cmpT_or] at ho
 generalize cmpT x y = e at *
 simp only [trC_eq]
 simp (maxSteps := 1000000) (disch := omega) only [go_sem]
 refine CALL_det (cmpS_fc _ _) (.inl rfl) ?_
 simp (maxSteps := 1000000) (disch := omega) only [go_sem]
 refine CALL_det (cmpS_fc _ _) (.inl rfl) ?_
 simp (maxSteps := 1000000) (disch := omega) only [go_sem]
 refine CALL_det ho (.inl rfl) ?_
 simp (maxSteps := 1000000) (disch := omega) only [go_sem]
def rf1St (l : List Trf) (i : Int) : AS := ⟨tabV [(0, trs false l), (10, trs false l), (11, iv l.length), (12, iv i)], tabO [], tabO []⟩
def rf2St (l : List Trf) (i : Int) : AS := ⟨tabV [(0, trs false l), (53, trs false l), (54, iv l.length), (55, iv i)], tabO [], tabO []⟩
set_option maxHeartbeats 12000000 in
theorem trF_fc (l : List Trf) (hl0 : l.length ≤ 1000000) (hsm : ∀ x ∈ l, x.frm.size ≤ 1000000 ∧ x.to.size ≤ 1000000) : FC Tryz.prog 9 none [trs false l] (fun _ r => r = iv (tfF l)) := by
 refine fc_trF (by simp +arith) ?_
 unfold C_trF tfF
 by_cases hl : l.length > 500
 ·rw [if_pos hl]
  simp (maxSteps := 1000000) (disch := (first | omega | assumption)) only [go_sem]
 rw [if_neg hl]
 simp (maxSteps := 1000000) (disch := (first | omega | assumption)) only [go_sem]
 refine ex_loop1 (rf1St l) (fun i => 0 ≤ i ∧ i ≤ l.length ∧ tgGo (prvT l i.toNat) (l.drop i.toNat) = tgGo none l) (fun i => (l.length - i).toNat) 0 ⟨by omega, by omega, rfl⟩ rfl ?_
 rintro i ⟨g1, g2, g3⟩
 unfold rf1St
 by_cases hi : i < l.length
 ·have e2 : (i + 1).toNat = i.toNat + 1 := by omega
  have em := getD_map_at trC l i [] g1 hi
  have hm := hsm _ (getD_mem l i.toNat (by omega))
  rw [drop_cons l i.toNat (by omega), tgGo, ← e2] at g3
  have hk1 := rkey_fc (l.getD i.toNat default).frm (by omega)
  have hk2 := rkey_fc (l.getD i.toNat default).to (by omega)
  have ho := rin1_fc (l.getD i.toNat default).amt 1 1000000
  unfold tfl at g3
  cases c1 : keyOk (l.getD i.toNat default).frm with
  | false =>
   rw [c1] at hk1 g3
   rw [Bool.false_and, if_pos rfl, if_pos (by omega)] at g3
   rw [← g3, if_pos (by omega)]
   simp (maxSteps := 1000000) (disch := (first | omega | assumption)) only [go_sem]
   refine CALL_det hk1 (.inl rfl) ?_
   simp (maxSteps := 1000000) (disch := (first | omega | assumption)) only [go_sem]
  | true =>
  cases c2 : keyOk (l.getD i.toNat default).to with
  | false =>
   rw [c1] at hk1 g3
   rw [c2] at hk2 g3
   rw [Bool.and_false, if_pos rfl, if_pos (by omega)] at g3
   rw [← g3, if_pos (by omega)]
   simp (maxSteps := 1000000) (disch := (first | omega | assumption)) only [go_sem]
   refine CALL_det hk1 (.inl rfl) ?_
   simp (maxSteps := 1000000) (disch := (first | omega | assumption)) only [go_sem]
   refine CALL_det hk2 (.inl rfl) ?_
   simp (maxSteps := 1000000) (disch := (first | omega | assumption)) only [go_sem]
  | true =>
  rw [c1] at hk1 g3
  rw [c2] at hk2 g3
  rw [Bool.and_true, if_neg (show ¬(true = false) by simp)] at g3
  by_cases c3 : (l.getD i.toNat default).frm = (l.getD i.toNat default).to
  ·rw [if_pos c3, if_pos (by omega)] at g3
   rw [← g3, if_pos (by omega)]
   simp (maxSteps := 1000000) (disch := (first | omega | assumption)) only [go_sem]
   refine CALL_det hk1 (.inl rfl) ?_
   simp (maxSteps := 1000000) (disch := (first | omega | assumption)) only [go_sem]
   refine CALL_det hk2 (.inl rfl) ?_
   simp (maxSteps := 1000000) (disch := (first | omega | assumption)) only [go_sem]
  rw [if_neg c3] at g3
  by_cases c4 : (l.getD i.toNat default).amt < 1 ∨ 1000000 < (l.getD i.toNat default).amt
  ·rw [if_pos c4, if_pos (by omega)] at g3
   rw [← g3, if_pos (by omega)]
   have c4' : ¬(1 ≤ (l.getD i.toNat default).amt ∧ (l.getD i.toNat default).amt ≤ 1000000) := by omega
   rw [decide_eq_false c4'] at ho
   simp (maxSteps := 1000000) (disch := (first | omega | assumption)) only [go_sem]
   refine CALL_det hk1 (.inl rfl) ?_
   simp (maxSteps := 1000000) (disch := (first | omega | assumption)) only [go_sem]
   refine CALL_det hk2 (.inl rfl) ?_
   simp (maxSteps := 1000000) (disch := (first | omega | assumption)) only [go_sem]
   refine CALL_det ho (.inl rfl) ?_
   simp (maxSteps := 1000000) (disch := (first | omega | assumption)) only [go_sem]
  rw [if_neg c4, if_neg (by omega)] at g3
  have c4' : 1 ≤ (l.getD i.toNat default).amt ∧ (l.getD i.toNat default).amt ≤ 1000000 := by omega
  rw [decide_eq_true c4'] at ho
  by_cases hi0 : 0 < i
  ·have ep := getD_map_at trC l (i - 1) [] (by omega) (by omega)
   have e4 : prvT l i.toNat = some (l.getD (i - 1).toNat default) := by
    unfold prvT; rw [if_neg (by omega)]
    rw [show i.toNat - 1 = (i - 1).toNat by omega]
   rw [e4] at g3
   have hb := rbyT_fc (l.getD (i - 1).toNat default) (l.getD i.toNat default)
   simp only [trC_eq] at hb
   have hgt := cmpT_lt (a := l.getD (i - 1).toNat default) (b := l.getD i.toNat default)
   generalize hC : cmpT (l.getD (i - 1).toNat default) (l.getD i.toNat default) = C at hb hgt
   by_cases c5 : ltT (l.getD (i - 1).toNat default) (l.getD i.toNat default)
   ·rw [if_neg (show ¬(ordT (some (l.getD (i - 1).toNat default)) (l.getD i.toNat default) = true) from fun h => (of_decide_eq_true h) c5)] at g3
    have h5 := hgt.2 c5
    clear hgt
    simp (maxSteps := 1000000) (disch := (first | omega | assumption)) only [go_sem]
    refine CALL_det hk1 (.inl rfl) ?_
    simp (maxSteps := 1000000) (disch := (first | omega | assumption)) only [go_sem]
    refine CALL_det hk2 (.inl rfl) ?_
    simp (maxSteps := 1000000) (disch := (first | omega | assumption)) only [go_sem]
    refine CALL_det ho (.inl rfl) ?_
    simp (maxSteps := 1000000) (disch := (first | omega | assumption)) only [go_sem]
    refine CALL_det hb (.inl rfl) ?_
    simp (maxSteps := 1000000) (disch := (first | omega | assumption)) only [go_sem]
    exact ⟨i + 1, rfl, ⟨by omega, by omega, by rw [e2, prvT_succ, ← e2]; exact g3⟩, by omega⟩
   ·rw [if_pos (show ordT (some (l.getD (i - 1).toNat default)) (l.getD i.toNat default) = true from decide_eq_true c5)] at g3
    have h5 : ¬C < 0 := fun h => c5 (hgt.1 h)
    clear hgt
    rw [← g3, if_pos (by omega)]
    simp (maxSteps := 1000000) (disch := (first | omega | assumption)) only [go_sem]
    refine CALL_det hk1 (.inl rfl) ?_
    simp (maxSteps := 1000000) (disch := (first | omega | assumption)) only [go_sem]
    refine CALL_det hk2 (.inl rfl) ?_
    simp (maxSteps := 1000000) (disch := (first | omega | assumption)) only [go_sem]
    refine CALL_det ho (.inl rfl) ?_
    simp (maxSteps := 1000000) (disch := (first | omega | assumption)) only [go_sem]
    refine CALL_det hb (.inl rfl) ?_
    simp (maxSteps := 1000000) (disch := (first | omega | assumption)) only [go_sem]
  ·have e0 : i = 0 := by omega
   subst e0
   rw [show prvT l (Int.toNat 0) = none from rfl, if_neg (by simp [ordT])] at g3
   simp (maxSteps := 1000000) (disch := (first | omega | assumption)) only [go_sem]
   refine CALL_det hk1 (.inl rfl) ?_
   simp (maxSteps := 1000000) (disch := (first | omega | assumption)) only [go_sem]
   refine CALL_det hk2 (.inl rfl) ?_
   simp (maxSteps := 1000000) (disch := (first | omega | assumption)) only [go_sem]
   refine CALL_det ho (.inl rfl) ?_
   simp (maxSteps := 1000000) (disch := (first | omega | assumption)) only [go_sem]
   exact ⟨1, rfl, ⟨by omega, by omega, g3⟩, by omega⟩
 ·rw [List.drop_eq_nil_of_le (by omega), tgGo] at g3
  rw [if_neg (show ¬(tgGo none l ≠ 0) by omega)]
  simp (maxSteps := 1000000) (disch := (first | omega | assumption)) only [go_sem]
  refine ex_loop1 (rf2St l) (fun i => 0 ≤ i ∧ i ≤ l.length ∧ ((l.drop i.toNat).any fun x => decide (x.frm ∈ lnkL l x.frm)) = l.any fun x => decide (x.frm ∈ lnkL l x.frm)) (fun i => (l.length - i).toNat) 0 ⟨by omega, by omega, rfl⟩ rfl ?_
  rintro i ⟨g1, g2, g3⟩
  unfold rf2St
  by_cases hi : i < l.length
  ·have e2 : (i + 1).toNat = i.toNat + 1 := by omega
   have em := getD_map_at trC l i [] g1 hi
   have hs := srcOf_fc l (by omega) (l.getD i.toNat default).frm
   have hk := containsK_fc (srtS (lnkL l (l.getD i.toNat default).frm)) (l.getD i.toNat default).frm (by
    rw [srtS_len]
    have := nodup_le _ (l.map (·.frm)) (lnkL_clo l (l.getD i.toNat default).frm).nd (fun s hs => by
     obtain ⟨x, _, hx⟩ := ((lnkL_clo l (l.getD i.toNat default).frm).re s hs).last
     exact stI_sub l x s hx)
    rw [List.length_map] at this; omega)
   rw [show decide ((l.getD i.toNat default).frm ∈ srtS (lnkL l (l.getD i.toNat default).frm)) = decide ((l.getD i.toNat default).frm ∈ lnkL l (l.getD i.toNat default).frm) from by simp only [srtS_mem]] at hk
   rw [drop_cons l i.toNat (by omega), List.any_cons, ← e2] at g3
   by_cases c1 : (l.getD i.toNat default).frm ∈ lnkL l (l.getD i.toNat default).frm
   ·rw [decide_eq_true c1] at hk g3
    rw [Bool.true_or] at g3
    rw [if_pos g3.symm]
    simp (maxSteps := 1000000) (disch := (first | omega | assumption)) only [go_sem]
    refine CALL_det hs (.inl rfl) ?_
    simp (maxSteps := 1000000) (disch := (first | omega | assumption)) only [go_sem]
    refine CALL_det hk (.inl rfl) ?_
    simp (maxSteps := 1000000) (disch := (first | omega | assumption)) only [go_sem]
   ·rw [decide_eq_false c1] at hk g3
    rw [Bool.false_or] at g3
    simp (maxSteps := 1000000) (disch := (first | omega | assumption)) only [go_sem]
    refine CALL_det hs (.inl rfl) ?_
    simp (maxSteps := 1000000) (disch := (first | omega | assumption)) only [go_sem]
    refine CALL_det hk (.inl rfl) ?_
    simp (maxSteps := 1000000) (disch := (first | omega | assumption)) only [go_sem]
    exact ⟨i + 1, rfl, ⟨by omega, by omega, g3⟩, by omega⟩
  ·rw [List.drop_eq_nil_of_le (by omega), List.any_nil] at g3
   rw [if_neg (by rw [← g3]; simp)]
   simp (maxSteps := 1000000) (disch := (first | omega | assumption)) only [go_sem]
end Go.Proofs.YtodmofhehabmgaaGreatDoor

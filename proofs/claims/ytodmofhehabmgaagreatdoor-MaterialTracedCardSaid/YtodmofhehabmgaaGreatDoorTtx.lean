/-
 A text that is changed at a place; a text of alarms, nearly always a right one.
-/
import Derived.Test.YtodmofhehabmgaaGreatDoorTxt
import Derived.Test.YtodmofhehabmgaaGreatDoorGdt
import Derived.Test.YtodmofhehabmgaaGreatDoorTgl
import Derived.Test.YtodmofhehabmgaaGreatDoorBld
namespace Go.Proofs.YtodmofhehabmgaaGreatDoor
open Go Go.Ai
set_option linter.unusedSimpArgs false
set_option linter.unusedVariables false
set_option maxHeartbeats 4000000
def C_changed : AC := (.seq (.reg false [gI 6 (.mv (.v (.string (ByteArray.mk #[]))))] (kP [0,1,2] [0] []))
 (.seq (.seq (.reg false [gM 9 1,gI 10 (.bin .eql (.t 9) (.v (.string (ByteArray.mk #[])))),gM 11 10,gG 12 11 false (.mv (.t 2)),gG 13 11 false (.bin .eql (.t 12) (.v (.string (ByteArray.mk #[])))),gI 14 (.pick (.t 11) (.v (.bool true)) (.t 13))] (kP [0,1,2,14] [0] []))
 (.cond (.t 14)
 (.seq (.reg false [gM 15 2,gM 6 15] (kP [6] [0] []))
 .ret)
 .skip))
 (.seq (.reg false [gM 16 0,gM 17 1,gI 18 (.slen (.t 17)),gI 19 (.callx (.f 31) [(.t 16),(.t 18)]),gM 7 19] (kP [0,1,2,7] [0] []))
 (.seq (.reg false [gM 20 2,gM 21 0,gM 22 2,gI 23 (.slen (.t 22)),gI 24 (.callx (.f 31) [(.t 21),(.t 23)]),gI 25 (.idx (.t 20) (.t 24)),gM 8 25] (kP [0,1,7,8] [0] []))
 (.seq (.seq (.reg false [gM 26 0,gI 27 (.callx (.f 31) [(.t 26),(oI 3)])] (kP [1,7,8,27] [0] []))
 (.block 0 (.seq (.reg false [gI 29 (.bin .eql (.t 27) (oI 0)),gM 28 29] (kP [1,7,8,27,28] [0] []))
 (.cond (.t 28)
 (.seq (.reg true [gM 30 1,gM 31 7,gI 32 (.ssub (.t 30) none (some (.t 31))),gM 33 8,gI 34 (.conv .i32 (.t 33)),gI 35 (.chr (.t 34)),gI 36 (.bin .add (.t 32) (.t 35)),gM 37 1,gM 38 7,gI 39 (.bin .add (.t 38) (oI 1)),gI 40 (.ssub (.t 37) (some (.t 39)) none),gI 41 (.bin .add (.t 36) (.t 40)),gM 6 41] (kP [6] [0] []))
 .ret)
 (.seq (.reg false [gI 43 (.bin .eql (.t 27) (oI 1)),gM 42 43] (kP [1,7,8,42] [0] []))
 (.cond (.t 42)
 (.seq (.reg true [gM 44 1,gM 45 7,gI 46 (.ssub (.t 44) none (some (.t 45))),gM 47 8,gI 48 (.conv .i32 (.t 47)),gI 49 (.chr (.t 48)),gI 50 (.bin .add (.t 46) (.t 49)),gM 51 1,gM 52 7,gI 53 (.ssub (.t 51) (some (.t 52)) none),gI 54 (.bin .add (.t 50) (.t 53)),gM 6 54] (kP [6] [0] []))
 .ret)
 .skip))))))
 (.seq (.reg true [gM 55 1,gM 56 7,gI 57 (.ssub (.t 55) none (some (.t 56))),gM 58 1,gM 59 7,gI 60 (.bin .add (.t 59) (oI 1)),gI 61 (.ssub (.t 58) (some (.t 60)) none),gI 62 (.bin .add (.t 57) (.t 61)),gM 6 62] (kP [6] [0] []))
 .ret))))))
theorem fc_changed : FcT Tryz.prog 69 Tryz.f69 C_changed [.t 6] := fc_mk [aN [0,1,2] [0] [],aN [0,1,2,14] [0] [],aN [6] [0] [],aN [0,1,2,7] [0] [],aN [0,1,7,8] [0] [],aN [1,7,8,27] [0] [],aN [1,7,8,27,28] [0] [],aN [6] [0] [],aN [1,7,8,42] [0] [],aN [6] [0] [],aN [6] [0] []] Tryz.func69 (by kernel_rfl)
theorem enc_size (r : Int) : (Utf8.encode r).size ≤ 4 := by
 unfold Utf8.encode
 simp only
 (repeat' split) <;> simp [ByteArray.size]
theorem ext_size (t : ByteArray) (i j : Nat) : (t.extract i j).size ≤ t.size := by
 rw [ByteArray.size_extract]; omega
theorem ap_size (a b : ByteArray) : (a ++ b).size = a.size + b.size := ByteArray.size_append
theorem nat_fit {a b : Nat} (h : a ≤ b) (hb : b ≤ 90000000) : (a : Int) ≤ 9223372036854775807 := by omega
theorem changed_det (t w : ByteArray) (ht : t.size ≤ 1000000) (hw : 1 ≤ w.size ∧ w.size ≤ 1000) : GenD Tryz.prog 69 [sv t, sv w] 3 (fun r => ∃ b : ByteArray, b.size ≤ 2 * t.size + 1000 ∧ r = sv b) := by
 refine genD_of (fun L p R' h => fc_changed (xt := some (strm L p)) (args := [sv t, sv w]) (R := R') (by simp +arith) h) ?_
 intro L p hL hl h0 hp
 unfold C_changed strm
 by_cases c1 : t = ByteArray.mk #[]
 ·simp (maxSteps := 1000000) (disch := (first | omega | assumption)) only [go_sem]
  exact ⟨(p, _), ⟨by simp only; omega, by simp only; omega, w, by omega, rfl⟩, rfl, rfl⟩
 ·have c2 : ¬w = ByteArray.mk #[] := fun h => by rw [h] at hw; exact absurd hw.1 (by decide)
  have c3 : 1 ≤ t.size := by
   rcases Nat.eq_zero_or_pos t.size with h | h
   ·exact absurd (ba_ext (List.eq_nil_of_length_eq_zero ((szL t).symm.trans h))) c1
   ·exact h
  simp (maxSteps := 1000000) (disch := (first | omega | assumption)) only [go_sem]
  obtain ⟨⟨pa, ra⟩, ⟨haa, hba, za, ka, na, rfl⟩, hfa⟩ := (next_det (t.size) (by omega) (by omega)) L p hL hl (by omega) (by omega)
  simp only at haa hba hfa
  refine exX hfa rfl rfl ?_
  unfold strm
  simp (maxSteps := 1000000) (disch := omega) only [go_sem]
  obtain ⟨⟨pb, rb⟩, ⟨hab, hbb, zb, kb, nb, rfl⟩, hfb⟩ := (next_det (w.size) (by omega) (by omega)) L pa hL hl (by omega) (by omega)
  simp only at hab hbb hfb
  refine exX hfb rfl rfl ?_
  unfold strm
  simp (maxSteps := 1000000) (disch := omega) only [go_sem]
  obtain ⟨⟨pc, rc⟩, ⟨hac, hbc, zc, kc, nc, rfl⟩, hfc⟩ := (next_det 3 (by omega) (by omega)) L pb hL hl (by omega) (by omega)
  simp only at hac hbc hfc
  refine exX hfc rfl rfl ?_
  unfold strm
  simp (maxSteps := 1000000) (disch := omega) only [go_sem]
  have x1 := ext_size t 0 za.toNat
  have x2 := ext_size t (za + 1).toNat t.size
  have x3 := ext_size t za.toNat t.size
  by_cases d0 : zc = 0
  ·simp only [d0, forall_const, not_true_eq_false, false_implies, and_true, NEED]
   exact ⟨(pc, _), ⟨by simp only; omega, by simp only; omega, _, by
    rw [ap_size, ap_size]
    exact Nat.le_trans (Nat.add_le_add (Nat.add_le_add x1 (enc_size _)) x2) (by omega), rfl⟩, nat_fit (Nat.add_le_add x1 (enc_size _)) (by omega), nat_fit (Nat.add_le_add (Nat.add_le_add x1 (enc_size _)) x2) (by omega), rfl, rfl⟩
  by_cases d1 : zc = 1
  ·have d2 := eq_true d1
   simp only [d0, d2, forall_const, not_true_eq_false, not_false_eq_true, false_implies, true_and, and_true, NEED]
   exact ⟨(pc, _), ⟨by simp only; omega, by simp only; omega, _, by
    rw [ap_size, ap_size]
    exact Nat.le_trans (Nat.add_le_add (Nat.add_le_add x1 (enc_size _)) x3) (by omega), rfl⟩, nat_fit (Nat.add_le_add x1 (enc_size _)) (by omega), nat_fit (Nat.add_le_add (Nat.add_le_add x1 (enc_size _)) x3) (by omega), rfl, rfl⟩
  simp only [d0, d1, forall_const, not_true_eq_false, not_false_eq_true, false_implies, true_and, and_true, NEED]
  have x5 : t.size + t.size ≤ 2000000 := by omega
  have hns : (t.extract 0 za.toNat).size + (t.extract (za + 1).toNat t.size).size ≤ t.size := by
   rw [ByteArray.size_extract, ByteArray.size_extract]; omega
  exact ⟨(pc, _), ⟨by simp only; omega, by simp only; omega, _, by rw [ap_size]; omega, rfl⟩, nat_fit hns (by omega), rfl, rfl⟩
end Go.Proofs.YtodmofhehabmgaaGreatDoor
/-
 Transfers, written and read: batch.Read, batch.Text, the reference's text; a text of transfers, nearly always a right one.
-/
namespace Go.Proofs.YtodmofhehabmgaaGreatDoor
open Go Go.Ai
set_option linter.unusedSimpArgs false
set_option linter.unusedVariables false
set_option maxHeartbeats 4000000
def C_readT : AC := (.seq (.reg false [gI 3 (.mv (.v (.bool false)))] (kP [0,1,1000001] [1000001] [1000002]))
 (.seq (.reg false [gM 8 0,gI 9 (.call (.f 72) [(.t 8),(oI 3)]),gM 7 9,gI 10 (.extr (.t 7) 0),gI 11 (.extr (.t 7) 1),gM 4 10,gM 5 11] (kP [1,4,5,1000001] [1000001] [1000002]))
 (.seq (.seq (.reg false [gM 12 5,gI 13 (.un .not (.t 12)),gM 14 13,gG 15 14 false (.mv (.t 4)),gG 16 14 false (.call (.f 39) [(.t 15),(.v (.string (ByteArray.mk #[])))]),gI 17 (.pick (.t 14) (.v (.bool true)) (.t 16))] (kP [1,4,17,1000001] [1000001] [1000002]))
 (.cond (.t 17)
 (.seq (.reg false [gI 3 (.mv (.v (.bool false)))] (kP [3] [1000001] [1000002]))
 .ret)
 .skip))
 (.seq (.reg false [gM 19 4,gI 20 (.iadr 1 (.t 19) (oI 2)),gI 21 (.load false 1 (.t 20)),gI 22 (.call (.f 73) [(.t 21),(oI 15)]),gM 18 22,gI 23 (.extr (.t 18) 0),gI 24 (.extr (.t 18) 1),gM 6 23,gM 5 24] (kP [1,4,5,6,1000001] [1000001] [1000002]))
 (.seq (.reg true [gI 25 (.load false 1 (.t 1)),gM 26 4,gI 27 (.iadr 1 (.t 26) (oI 0)),gI 28 (.load false 1 (.t 27)),gM 29 4,gI 30 (.iadr 1 (.t 29) (oI 1)),gI 31 (.load false 1 (.t 30)),gM 32 6,gI 33 (.build [(.string (ByteArray.mk #[])),(.string (ByteArray.mk #[])),(.int .i64 (0))] [(0,1,(.t 28)),(1,1,(.t 31)),(2,1,(.t 32))]),gI 34 (.bslice 3 1 [(.t 33)]),gI 35 (.append 54 3 40 (.t 25) (.t 34)),gN (.store 1 (.t 1) (.t 35))] (kP [5] [1000001] [1000002]))
 (.seq (.reg false [gM 36 5,gM 3 36] (kP [3] [1000001] [1000002]))
 .ret))))))
theorem fcm_readT : FmT Tryz.prog 71 Tryz.f71 C_readT [.t 3] := fcm_mk [aN [0,1,1000001] [1000001] [1000002],aN [1,4,5,1000001] [1000001] [1000002],aN [1,4,17,1000001] [1000001] [1000002],aN [3] [1000001] [1000002],aN [1,4,5,6,1000001] [1000001] [1000002],aN [5] [1000001] [1000002],aN [3] [1000001] [1000002]] Tryz.func71 (by kernel_rfl)
def C_each : AC := (.seq (.reg false [gI 4 (.mv (oI 0)),gI 5 (.mv (.v (.bool false)))] (kP [0,1,1000001] [1000001] [1000002]))
 (.seq (.reg false [gM 11 0,gI 12 (.call (.f 102) [(.t 11)]),gM 10 12,gI 13 (.extr (.t 10) 0),gI 14 (.extr (.t 10) 1),gM 6 13,gM 7 14] (kP [1,6,7,1000001] [1000001] [1000002]))
 (.seq (.seq (.reg false [gM 15 6,gI 16 (.len (.t 15)),gI 17 (.mv (oI 0))] (kP [1,6,7,15,16,17,1000001] [1000001] [1000002]))
 (.block 0 (.loop (.seq (.reg false [gI 18 (.bin .lss (.t 17) (.t 16))] (kP [1,6,7,15,16,17,18,1000001] [1000001] [1000002]))
 (.seq (.cond (.t 18)
 .skip
 (.exit 0))
 (.seq (.block 1 (.seq (.reg false [gM 19 17,gI 20 (.iadr 1 (.t 15) (.t 17)),gI 21 (.load false 1 (.t 20)),gM 8 19,gM 9 21] (kP [1,6,7,8,9,15,16,17,1000001] [1000001] [1000002]))
 (.seq (.reg false [gM 22 7,gI 23 (.un .not (.t 22)),gM 24 23,gG 25 24 true (.mv (.t 8)),gG 26 24 true (.mv (.t 6)),gG 27 24 true (.len (.t 26)),gG 28 24 true (.bin .sub (.t 27) (oI 1)),gG 29 24 true (.bin .eql (.t 25) (.t 28)),gI 30 (.pick (.t 24) (.t 29) (.v (.bool false))),gM 31 30,gG 32 31 false (.mv (.t 1)),gG 33 31 false (.mv (.t 9)),gG 34 31 false (.callm (.t 32) [(.t 33)] ⟨[1000001],[1000002],[1000001],[1000002],[]⟩),gG 35 31 false (.un .not (.t 34)),gI 36 (.pick (.t 31) (.v (.bool true)) (.t 35))] (kP [1,6,7,8,15,16,17,36,1000001] [1000001] [1000002]))
 (.cond (.t 36)
 (.seq (.reg false [gM 37 8,gM 4 37,gI 5 (.mv (.v (.bool false)))] (kP [4,5] [1000001] [1000002]))
 .ret)
 .skip))))
 (.reg false [gI 38 (.bin .add (.t 17) (oI 1)),gM 17 38] (kP [1,6,7,15,16,17,1000001] [1000001] [1000002]))))))))
 (.seq (.reg false [gI 4 (.mv (oI 0)),gI 5 (.mv (.v (.bool true)))] (kP [4,5] [1000001] [1000002]))
 .ret))))
theorem fcm_each : FmT Tryz.prog 70 Tryz.f70 C_each [.t 4, .t 5] := fcm_mk [aN [0,1,1000001] [1000001] [1000002],aN [1,6,7,1000001] [1000001] [1000002],aN [1,6,7,15,16,17,1000001] [1000001] [1000002],aN [1,6,7,15,16,17,18,1000001] [1000001] [1000002],aN [1,6,7,8,9,15,16,17,1000001] [1000001] [1000002],⟨(kP [1,6,7,8,15,16,17,36,1000001] [1000001] [1000002]),[],[],[],[(34,⟨[1000001],[1000002],[1000001],[1000002],[]⟩)]⟩,aN [4,5] [1000001] [1000002],aN [1,6,7,15,16,17,1000001] [1000001] [1000002],aN [4,5] [1000001] [1000002]] Tryz.func70 (by kernel_rfl)
def C_read : AC := (.seq (.reg false [gI 2 (.mv (.v (.slice none 0 0))),gI 3 (.mv (oI 0)),gI 4 (.mv (oI 0))] (kP [0,5] [5] []))
 (.seq (.seq (.reg false [gM 9 0,gI 10 (.slen (.t 9)),gI 11 (.bin .gtr (.t 10) (oI 200000))] (kP [0,5,11] [5] []))
 (.cond (.t 11)
 (.seq (.seq (.reg false [gI 2 (.mv (.v (.slice none 0 0))),gI 3 (.mv (oI 0)),gI 4 (.mv (oI 2))] (kP [2,3,4,5] [5] []))
 (.ty 2 3))
 .ret)
 .skip))
 (.seq (.seq (.reg false [gI 5 (.alloc [(.slice none 0 0)])] (kP [0,5] [5] []))
 (.ownb 5 0 5 54 3))
 (.seq (.reg false [gM 13 0,gI 14 (.mkfn 71 [(.t 5)]),gI 15 (.callm (.f 70) [(.t 13),(.t 14)] ⟨[5],[5],[5],[5],[]⟩),gM 12 15,gI 16 (.extr (.t 12) 0),gI 17 (.extr (.t 12) 1),gM 6 16,gM 7 17] (kP [5,6,7] [5] []))
 (.seq (.seq (.reg false [gM 18 7,gI 19 (.un .not (.t 18))] (kP [5,6,19] [5] []))
 (.cond (.t 19)
 (.seq (.seq (.reg false [gM 20 6,gI 2 (.mv (.v (.slice none 0 0))),gM 3 20,gI 4 (.mv (oI 9))] (kP [2,3,4,5] [5] []))
 (.ty 2 3))
 .ret)
 .skip))
 (.seq (.seq (.reg false [gI 21 (.load false 1 (.t 5)),gI 22 (.call (.f 10) [(.t 21)]),gM 8 22] (kP [5,8] [5] []))
 (.seq (.reg false [gM 23 8,gI 24 (.bin .neq (.t 23) (oI 0))] (kP [5,8,24] [5] []))
 (.cond (.t 24)
 (.seq (.seq (.reg false [gM 25 8,gI 2 (.mv (.v (.slice none 0 0))),gI 3 (.mv (oI 0)),gM 4 25] (kP [2,3,4,5] [5] []))
 (.ty 2 3))
 .ret)
 .skip)))
 (.seq (.reg false [gI 26 (.load false 1 (.t 5)),gM 2 26,gI 3 (.mv (oI 0)),gI 4 (.mv (oI 0))] (kP [2,3,4,5] [5] []))
 .ret)))))))
theorem fc_read : FcT Tryz.prog 26 Tryz.f26 C_read [.t 2, .t 3, .t 4] := fc_mk [aN [0,5] [5] [],aN [0,5,11] [5] [],⟨(kP [2,3,4,5] [5] []),[],[],[(2,3)],[]⟩,⟨(kP [0,5] [5] []),[(1000005,54,3)],[],[],[]⟩,⟨(kP [5,6,7] [5] []),[],[],[],[(15,⟨[5],[5],[5],[5],[]⟩)]⟩,aN [5,6,19] [5] [],⟨(kP [2,3,4,5] [5] []),[],[],[(2,3)],[]⟩,aN [5,8] [5] [],aN [5,8,24] [5] [],⟨(kP [2,3,4,5] [5] []),[],[],[(2,3)],[]⟩,aN [2,3,4,5] [5] []] Tryz.func26 (by kernel_rfl)
def C_text : AC := (.seq (.reg false [gI 2 (.mv (.v (.string (ByteArray.mk #[])))),gI 3 (.mv (oI 0))] (kP [0,900005] [] []))
 (.seq (.seq (.reg false [gM 8 0,gI 9 (.call (.f 10) [(.t 8)]),gM 4 9] (kP [0,4,900005] [] []))
 (.seq (.reg false [gM 10 4,gI 11 (.bin .neq (.t 10) (oI 0))] (kP [0,4,11,900005] [] []))
 (.cond (.t 11)
 (.seq (.reg false [gM 12 4,gI 2 (.mv (.v (.string (ByteArray.mk #[])))),gM 3 12] (kP [2,3,900005] [900005] []))
 .ret)
 .skip)))
 (.seq (.seq (.reg false [gI 5 (.bld [(.pointer none),(.slice none 0 0)])] (kP [0,5,900005] [900005] []))
 (.ownb 900005 1 150005 5 1))
 (.seq (.seq (.reg false [gM 13 0,gI 14 (.len (.t 13)),gI 15 (.mv (oI 0))] (kP [5,13,14,15,900005] [900005] [150005]))
 (.block 0 (.loop (.seq (.reg false [gI 16 (.bin .lss (.t 15) (.t 14))] (kP [5,13,14,15,16,900005] [900005] [150005]))
 (.seq (.cond (.t 16)
 .skip
 (.exit 0))
 (.seq (.block 1 (.seq (.reg false [gI 17 (.iadr 3 (.t 13) (.t 15)),gI 18 (.load true 3 (.t 17)),gI 7 (.alloc [(.string (ByteArray.mk #[])),(.string (ByteArray.mk #[])),(.int .i64 (0))]),gN (.store 3 (.t 7) (.t 18))] (kP [5,7,13,14,15,900005] [7,900005] [150005]))
 (.reg true [gI 19 (.fadr 0 (.t 7)),gI 20 (.load false 1 (.t 19)),gI 21 (.bin .add (.t 20) (.v (.string (ByteArray.mk #[32])))),gI 22 (.fadr 1 (.t 7)),gI 23 (.load false 1 (.t 22)),gI 24 (.bin .add (.t 21) (.t 23)),gI 25 (.bin .add (.t 24) (.v (.string (ByteArray.mk #[32])))),gI 26 (.fadr 2 (.t 7)),gI 27 (.load false 1 (.t 26)),gI 28 (.call (.f 33) [(.t 27)]),gI 29 (.bin .add (.t 25) (.t 28)),gI 30 (.bin .add (.t 29) (.v (.string (ByteArray.mk #[10])))),gI 31 (.callm (.f 65) [(.t 5),(.t 30)] ⟨[900005],[150005],[900005],[150005],[]⟩)] (kP [5,13,14,15,900005] [900005] [150005]))))
 (.reg false [gI 32 (.bin .add (.t 15) (oI 1)),gM 15 32] (kP [5,13,14,15,900005] [900005] [150005]))))))))
 (.seq (.seq (.reg false [gI 33 (.callm (.f 66) [(.t 5)] ⟨[900005],[150005],[900005],[150005],[]⟩),gI 34 (.bin .gtr (.t 33) (oI 200000))] (kP [5,34,900005] [900005] [150005]))
 (.cond (.t 34)
 (.seq (.reg false [gI 2 (.mv (.v (.string (ByteArray.mk #[])))),gI 3 (.mv (oI 2))] (kP [2,3,900005] [900005] []))
 .ret)
 .skip))
 (.seq (.reg false [gI 35 (.callm (.f 67) [(.t 5)] ⟨[900005],[150005],[900005],[150005],[]⟩),gM 2 35,gI 3 (.mv (oI 0))] (kP [2,3,900005] [900005] []))
 .ret))))))
theorem fc_text : FcT Tryz.prog 23 Tryz.f23 C_text [.t 2, .t 3] := fc_mk [aN [0,900005] [] [],aN [0,4,900005] [] [],aN [0,4,11,900005] [] [],aN [2,3,900005] [900005] [],⟨(kP [0,5,900005] [900005] []),[(1150005,5,1)],[],[],[]⟩,aN [5,13,14,15,900005] [900005] [150005],aN [5,13,14,15,16,900005] [900005] [150005],aN [5,7,13,14,15,900005] [7,900005] [150005],⟨(kP [5,13,14,15,900005] [900005] [150005]),[],[],[],[(31,⟨[900005],[150005],[900005],[150005],[]⟩)]⟩,aN [5,13,14,15,900005] [900005] [150005],⟨(kP [5,34,900005] [900005] [150005]),[],[],[],[(33,⟨[900005],[150005],[900005],[150005],[]⟩)]⟩,aN [2,3,900005] [900005] [],⟨(kP [2,3,900005] [900005] []),[],[],[],[(35,⟨[900005],[150005],[900005],[150005],[]⟩)]⟩] Tryz.func23 (by kernel_rfl)
def C_tlines : AC := (.seq (.reg false [gI 2 (.mv (.v (.string (ByteArray.mk #[]))))] (kP [0,900003] [] []))
 (.seq (.seq (.reg false [gI 3 (.bld [(.pointer none),(.slice none 0 0)])] (kP [0,3,900003] [900003] []))
 (.ownb 900003 1 150003 5 1))
 (.seq (.seq (.reg false [gM 6 0,gI 7 (.len (.t 6)),gI 8 (.mv (oI 0))] (kP [3,6,7,8,900003] [900003] [150003]))
 (.block 0 (.loop (.seq (.reg false [gI 9 (.bin .lss (.t 8) (.t 7))] (kP [3,6,7,8,9,900003] [900003] [150003]))
 (.seq (.cond (.t 9)
 .skip
 (.exit 0))
 (.seq (.block 1 (.seq (.reg false [gI 10 (.iadr 3 (.t 6) (.t 8)),gI 11 (.load true 3 (.t 10)),gI 5 (.alloc [(.string (ByteArray.mk #[])),(.string (ByteArray.mk #[])),(.int .i64 (0))]),gN (.store 3 (.t 5) (.t 11))] (kP [3,5,6,7,8,900003] [5,900003] [150003]))
 (.reg true [gI 12 (.fadr 0 (.t 5)),gI 13 (.load false 1 (.t 12)),gI 14 (.bin .add (.t 13) (.v (.string (ByteArray.mk #[32])))),gI 15 (.fadr 1 (.t 5)),gI 16 (.load false 1 (.t 15)),gI 17 (.bin .add (.t 14) (.t 16)),gI 18 (.bin .add (.t 17) (.v (.string (ByteArray.mk #[32])))),gI 19 (.fadr 2 (.t 5)),gI 20 (.load false 1 (.t 19)),gI 21 (.call (.f 33) [(.t 20)]),gI 22 (.bin .add (.t 18) (.t 21)),gI 23 (.bin .add (.t 22) (.v (.string (ByteArray.mk #[10])))),gI 24 (.callm (.f 65) [(.t 3),(.t 23)] ⟨[900003],[150003],[900003],[150003],[]⟩)] (kP [3,6,7,8,900003] [900003] [150003]))))
 (.reg false [gI 25 (.bin .add (.t 8) (oI 1)),gM 8 25] (kP [3,6,7,8,900003] [900003] [150003]))))))))
 (.seq (.reg false [gI 26 (.callm (.f 67) [(.t 3)] ⟨[900003],[150003],[900003],[150003],[]⟩),gM 2 26] (kP [2,900003] [900003] []))
 .ret))))
theorem fc_tlines : FcT Tryz.prog 24 Tryz.f24 C_tlines [.t 2] := fc_mk [aN [0,900003] [] [],⟨(kP [0,3,900003] [900003] []),[(1150003,5,1)],[],[],[]⟩,aN [3,6,7,8,900003] [900003] [150003],aN [3,6,7,8,9,900003] [900003] [150003],aN [3,5,6,7,8,900003] [5,900003] [150003],⟨(kP [3,6,7,8,900003] [900003] [150003]),[],[],[],[(24,⟨[900003],[150003],[900003],[150003],[]⟩)]⟩,aN [3,6,7,8,900003] [900003] [150003],⟨(kP [2,900003] [900003] []),[],[],[],[(26,⟨[900003],[150003],[900003],[150003],[]⟩)]⟩] Tryz.func24 (by kernel_rfl)
def C_tstr : AC := (.seq (.reg false [gI 2 (.mv (.v (.string (ByteArray.mk #[]))))] (kP [0] [0] []))
 (.seq (.reg false [gM 4 0,gI 5 (.callx (.f 68) [(.t 4)]),gI 6 (.call (.f 24) [(.t 5)]),gM 3 6] (kP [0,3] [0] []))
 (.seq (.seq (.reg false [gM 7 0,gI 8 (.bslice 1 4 [(oI 0),(oI 0),(oI 1),(oI 2)]),gI 9 (.callx (.f 30) [(.t 7),(.t 8)]),gI 10 (.mv (oI 0))] (kP [0,3,9,10] [0] []))
 (.block 0 (.loop (.seq (.reg false [gI 11 (.bin .lss (.t 10) (.t 9))] (kP [0,3,9,10,11] [0] []))
 (.seq (.cond (.t 11)
 .skip
 (.exit 0))
 (.seq (.block 1 (.reg false [gM 12 0,gM 13 3,gI 14 (.callx (.f 69) [(.t 12),(.t 13),(.v (.string (ByteArray.mk #[32,10,48,49,98,45])))]),gM 3 14] (kP [0,3,9,10] [0] [])))
 (.reg false [gI 15 (.bin .add (.t 10) (oI 1)),gM 10 15] (kP [0,3,9,10] [0] []))))))))
 (.seq (.reg false [gM 16 3,gM 2 16] (kP [2] [0] []))
 .ret))))
theorem fc_tstr : FcT Tryz.prog 25 Tryz.f25 C_tstr [.t 2] := fc_mk [aN [0] [0] [],aN [0,3] [0] [],aN [0,3,9,10] [0] [],aN [0,3,9,10,11] [0] [],aN [0,3,9,10] [0] [],aN [0,3,9,10] [0] [],aN [2] [0] []] Tryz.func25 (by kernel_rfl)
theorem words3_fc (s : ByteArray) (hs : s.size ≤ 1000000) : FC Tryz.prog 72 none [sv s, iv 3] (fun _ r => r = .tu [strs true (if wd3 (wds s) = true then wds s else []), bv (wd3 (wds s))]) := by
 refine fc_words (by simp +arith) ?_
 have hc := split_fc s 32 (by omega)
 rw [splL_eq, show (spl 32 s.data.toList).map bS = wds s from rfl] at hc
 have hlw : (wds s).length ≤ 1000001 := by
  have := spl_len 32 s.data.toList
  rw [← szL] at this
  unfold wds; rw [List.length_map]; omega
 generalize wds s = w at hc hlw ⊢
 unfold C_words wd3
 simp (maxSteps := 1000000) (disch := (first | omega | assumption)) only [go_sem]
 refine CALL_det hc (.inl rfl) ?_
 by_cases h10 : w.length = 3
 ·rw [decide_eq_true h10, Bool.true_and]
  simp (maxSteps := 1000000) (disch := (first | omega | assumption)) only [go_sem]
  rw [h10]
  refine ex_loop1 (fun i => ⟨tabV [(6, strs true w), (15, strs true w), (16, iv 3), (17, iv i)], tabO [], tabO []⟩) (fun i => 0 ≤ i ∧ i ≤ 3 ∧ ((w.drop i.toNat).all fun s => decide (s ≠ emp)) = w.all fun s => decide (s ≠ emp)) (fun i => (3 - i).toNat) 0 ⟨by omega, by omega, rfl⟩ rfl ?_
  rintro i ⟨g1, g2, g3⟩
  by_cases hi : i < 3
  ·have e2 : (i + 1).toNat = i.toNat + 1 := by omega
   have em := getD_str w i g1 (by omega)
   rw [drop_cons w i.toNat (by omega), ← e2, List.all_cons] at g3
   by_cases c1 : w.getD i.toNat default = emp
   ·rw [decide_eq_false (fun h => h c1), Bool.false_and] at g3
    rw [← g3]
    simp (maxSteps := 1000000) (disch := (first | omega | assumption)) only [go_sem]
    rfl
   ·rw [decide_eq_true c1, Bool.true_and] at g3
    simp (maxSteps := 1000000) (disch := (first | omega | assumption)) only [go_sem]
    exact ⟨i + 1, rfl, ⟨by omega, by omega, g3⟩, by omega⟩
  ·rw [List.drop_eq_nil_of_le (by omega), List.all_nil] at g3
   rw [← g3]
   simp (maxSteps := 1000000) (disch := (first | omega | assumption)) only [go_sem]
 ·rw [decide_eq_false h10, Bool.false_and]
  have h11 : ¬(w.length : Int) = 3 := by omega
  simp (maxSteps := 1000000) (disch := (first | omega | assumption)) only [go_sem]
  rfl
theorem tn0 : Int.toNat 0 = 0 := (rfl)
theorem tn1 : Int.toNat 1 = 1 := (rfl)
theorem gd0 (a b c : List Cel) : [a, b, c].getD 0 [] = a := (rfl)
theorem gd1 (a b c : List Cel) : [a, b, c].getD 1 [] = b := (rfl)
attribute [go_sem] tn0 tn1 gd0 gd1
abbrev teRow (l : List Trf) : Row := ⟨0, 54, 3, l.map trC⟩
abbrev teH (l : List Trf) : Hp := ⟨[(1000001, [.ow 1000002 0])], [(1000002, teRow l)]⟩
theorem datE_tr (l : List Trf) : datE (l.map trC) = l.map trC := datE_map (fun _ => rfl) l
attribute [go_sem] datE_tr
theorem wds_size (s : ByteArray) : ∀ x ∈ wds s, x.size ≤ s.size := fun x hx => by
 obtain ⟨y, hy, rfl⟩ := List.mem_map.1 hx
 have := spl_mem 32 _ y hy
 rw [← szL] at this
 rw [bS_size]; omega
theorem readT_fcm (s : ByteArray) (hs : s.size ≤ 1000000) (o : List Trf) (ho : o.length ≤ 1000000) : FCM Tryz.prog 71 (teH o) [sv s, .one (.bx 1000001 0)] (fun H r => H = teH (o ++ (tlL s).1.toList) ∧ r = bv (tlL s).2) := by
 refine fcm_readT (K := ⟨[], [1000001], [1000002]⟩) (by simp +arith) (by simp [XK]) (by simp [XK]) ?_
 have hc := words3_fc s hs
 have hws := wds_size s
 unfold tlL
 generalize wds s = w at hc hws ⊢
 unfold C_readT
 cases h : wd3 w with
 | false =>
  rw [h] at hc
  rw [if_neg (by simp)] at hc ⊢
  simp (maxSteps := 1000000) (disch := (first | omega | assumption)) only [go_sem]
  refine CALL_det hc (.inl rfl) ?_
  simp (maxSteps := 1000000) (disch := (first | omega | assumption)) only [go_sem]
  simp [teH]
 | true =>
  rw [h] at hc
  rw [if_pos rfl] at hc ⊢
  unfold wd3 at h
  simp only [Bool.and_eq_true, decide_eq_true_eq, List.all_eq_true] at h
  obtain ⟨hl3, hne⟩ := h
  match w, hl3 with
  | [w0, w1, w2], _ =>
   have hk := containsS_fc [w0, w1, w2] (by simp) (fun s hs => hne s hs)
   have hn := number_fc w2 (by have := hws w2 (by simp); omega)
   simp only [strs, List.map_cons, List.map_nil, strC_eq] at hc hk
   simp only [rdW, List.getD_cons_succ, List.getD_cons_zero, Option.toList_some]
   simp (maxSteps := 1000000) (disch := (first | omega | assumption)) only [go_sem]
   refine CALL_det hc (.inl rfl) ?_
   simp (maxSteps := 1000000) (disch := (first | omega | assumption)) only [go_sem]
   refine CALL_det hk (.inl rfl) ?_
   simp (maxSteps := 1000000) (disch := (first | omega | assumption)) only [go_sem]
   refine CALL_det hn (.inl rfl) ?_
   simp (maxSteps := 1000000) (disch := (first | omega | assumption)) only [go_sem]
   simp [teH, trC_eq]
theorem kvF2 (v : Nat) (h : v ≤ 1) : kv 1000002 v = v := by
 unfold kv; rw [if_neg (by simp [XK])]; omega
theorem kvU2 (v : Nat) : kv 1000002 (v + 1) = 1 := by
 unfold kv; rw [if_neg (by simp [XK])]; omega
attribute [go_sem] kvF2 kvU2
def etSt (ls : List ByteArray) (ends : Bool) (i : Int) (o : List Trf) (v : Nat) : AS := ⟨tabV [(1, .one (.fn 71 [.bx 1000001 0])), (6, strs true ls), (7, bv ends), (15, strs true ls), (16, iv ls.length), (17, iv i), (1000001, .any)], tabO [(1000001, [.ow 1000002 v])], tabO [(1000002, ⟨v, 54, 3, o.map trC⟩)]⟩
theorem linesT_size (t : ByteArray) : ∀ x ∈ (linesA t.data.toList).1, x.size ≤ t.size := by
 intro x hx
 rw [szL t]
 unfold linesA at hx
 split at hx
 ·simp at hx
 ·split at hx
  all_goals
   obtain ⟨y, hy, rfl⟩ := List.mem_map.1 hx
   have := spl_mem 10 _ y hy
   rw [bS_size]
   try rw [List.length_dropLast] at this
   omega
theorem linesT_len (t : ByteArray) : (linesA t.data.toList).1.length ≤ t.size + 1 := by
 rw [szL t]
 unfold linesA
 split
 ·simp
 ·split
  ·have := spl_len 10 t.data.toList.dropLast
   rw [List.length_dropLast] at this
   simp only [List.length_map]; omega
  ·have := spl_len 10 t.data.toList
   simp only [List.length_map]; omega
theorem each3_fcm (t : ByteArray) (ht : t.size ≤ 200000) : FCM Tryz.prog 70 (teH []) [sv t, .one (.fn 71 [.bx 1000001 0])] (fun H r => H = teH (ttT t.data.toList).1 ∧ r = .tu [iv (ttT t.data.toList).2.1, bv (ttT t.data.toList).2.2]) := by
 refine fcm_each (K := ⟨[], [1000001], [1000002]⟩) (by simp +arith) (by simp [XK]) (by simp [XK]) ?_
 have hc := lines_fc t (by omega)
 have hsz : ∀ x ∈ (linesA t.data.toList).1, x.size ≤ 1000000 := fun x hx => by have := linesT_size t x hx; omega
 have hln : (linesA t.data.toList).1.length ≤ 200001 := by have := linesT_len t; omega
 unfold ttT
 generalize linesA t.data.toList = L at hc hsz hln ⊢
 obtain ⟨ls, ends⟩ := L
 simp only at hc hsz hln ⊢
 generalize hR : eachT ends ls 0 [] = R
 unfold C_each
 simp (maxSteps := 1000000) (disch := omega) only [go_sem]
 refine CALL_det hc (.inl rfl) ?_
 simp (maxSteps := 1000000) (disch := omega) only [go_sem]
 refine ex_loop3 (fun i o v => etSt ls ends i o v) (fun i o v => 0 ≤ i ∧ i ≤ ls.length ∧ v ≤ 1 ∧ (o.length : Int) ≤ i ∧ eachT ends (ls.drop i.toNat) i o = R) (fun i _ _ => (ls.length - i).toNat) 0 [] 0 ⟨by omega, by omega, by omega, by simp, hR⟩ rfl ?_
 rintro i o v ⟨g1, g2, g3, g4, g5⟩
 unfold etSt
 by_cases hi : i < ls.length
 ·have e2 : (i + 1).toNat = i.toNat + 1 := by omega
  have em := getD_str ls i g1 hi
  rw [drop_cons ls i.toNat (by omega), eachT, ← e2] at g5
  have hln2 : (ls.drop (i + 1).toNat).length = ls.length - (i + 1).toNat := List.length_drop
  have hcx := readT_fcm (ls.getD i.toNat default) (hsz _ (getD_memB ls i.toNat (by omega))) o (by omega)
  generalize hx : tlL (ls.getD i.toNat default) = X at *
  obtain ⟨x, b⟩ := X
  simp only at hcx g5
  have hxl : x.toList.length ≤ 1 := by cases x <;> simp
  cases ends with
  | true =>
   rw [if_neg (by simp)] at g5
   simp (maxSteps := 1000000) (disch := (first | omega | assumption)) only [go_sem]
   refine ⟨rfl, CALLM_det hcx ⟨rfl, rfl⟩ ?_⟩
   cases b with
   | true =>
    rw [if_pos rfl] at g5
    simp (maxSteps := 1000000) (disch := (first | omega | assumption)) only [go_sem]
    exact ⟨i + 1, o ++ x.toList, 1, rfl, ⟨by omega, by omega, by omega, by simp; omega, g5⟩, by omega⟩
   | false =>
    rw [if_neg (by simp)] at g5
    subst g5
    simp (maxSteps := 1000000) (disch := (first | omega | assumption)) only [go_sem]
  | false =>
   rw [hln2] at g5
   by_cases hla : i = ls.length - 1
   ·rw [if_pos (by rw [decide_eq_true (show ls.length - (i + 1).toNat = 0 by omega)]; rfl)] at g5
    subst g5
    simp (maxSteps := 1000000) (disch := (first | omega | assumption)) only [go_sem]
   ·rw [if_neg (by rw [decide_eq_false (show ¬ls.length - (i + 1).toNat = 0 by omega)]; simp)] at g5
    simp (maxSteps := 1000000) (disch := (first | omega | assumption)) only [go_sem]
    refine ⟨rfl, CALLM_det hcx ⟨rfl, rfl⟩ ?_⟩
    cases b with
    | true =>
     rw [if_pos rfl] at g5
     simp (maxSteps := 1000000) (disch := (first | omega | assumption)) only [go_sem]
     exact ⟨i + 1, o ++ x.toList, 1, rfl, ⟨by omega, by omega, by omega, by simp; omega, g5⟩, by omega⟩
    | false =>
     rw [if_neg (by simp)] at g5
     subst g5
     simp (maxSteps := 1000000) (disch := (first | omega | assumption)) only [go_sem]
 ·rw [List.drop_eq_nil_of_le (by omega), eachT] at g5
  subst g5
  simp (maxSteps := 1000000) (disch := (first | omega | assumption)) only [go_sem]
def pRt (k : Nat) : Nat := if k = 5 then 1000001 else if k = 1000001 then 5 else k
def qRt (k : Nat) : Nat := if k = 5 then 1000002 else if k = 1000002 then 5 else k
theorem pRt_p (k : Nat) : pRt (pRt k) = k := by unfold pRt; (repeat' split) <;> omega
theorem qRt_q (k : Nat) : qRt (qRt k) = k := by unfold qRt; (repeat' split) <;> omega
theorem getD_size (w : List ByteArray) (i m : Nat) (h : ∀ x ∈ w, x.size ≤ m) : (w.getD i emp).size ≤ m := by
 rw [List.getD_eq_getElem?_getD]
 cases h2 : w[i]? with
 | none => exact Nat.zero_le _
 | some x => exact h x (List.mem_of_getElem? h2)
theorem tlL_size (s : ByteArray) : ∀ x, (tlL s).1 = some x → x.frm.size ≤ s.size ∧ x.to.size ≤ s.size := by
 have hw := wds_size s
 intro x hx
 unfold tlL at hx
 split at hx
 ·simp only [Option.some.injEq] at hx
  subst hx
  exact ⟨getD_size _ 0 _ hw, getD_size _ 1 _ hw⟩
 ·simp at hx
theorem eachT_size (ends : Bool) (m : Nat) : ∀ (ls : List ByteArray) (i : Int) (o : List Trf), (∀ s ∈ ls, s.size ≤ m) → (∀ x ∈ o, x.frm.size ≤ m ∧ x.to.size ≤ m) → (∀ x ∈ (eachT ends ls i o).1, x.frm.size ≤ m ∧ x.to.size ≤ m) ∧ (eachT ends ls i o).1.length ≤ o.length + ls.length
 | [], i, o, _, h => ⟨h, by simp [eachT]⟩
 | s :: r, i, o, hs, h => by
  have h2 : ∀ x ∈ o ++ (tlL s).1.toList, x.frm.size ≤ m ∧ x.to.size ≤ m := fun x hx => by
   rcases List.mem_append.1 hx with hx | hx
   ·exact h x hx
   ·have := tlL_size s x (by simpa using hx)
    have := hs s (by simp)
    omega
  have h3 : (tlL s).1.toList.length ≤ 1 := by cases (tlL s).1 <;> simp
  rw [eachT]
  split
  ·exact ⟨h, by simp⟩
  ·split
   ·have := eachT_size ends m r (i + 1) _ (fun x hx => hs x (by simp [hx])) h2
    refine ⟨this.1, Nat.le_trans this.2 (by simp; omega)⟩
   ·exact ⟨h2, by simp; omega⟩
theorem readTr_fc (t : ByteArray) (ht : t.size ≤ 1000000) : FC Tryz.prog 26 none [sv t] (fun _ r => r = .tu [trs true (ttF t.data.toList).1, iv (ttF t.data.toList).2.1, iv (ttF t.data.toList).2.2]) := by
 refine fc_read (by simp +arith) ?_
 unfold C_read ttF
 have hsz : t.data.toList.length = t.size := (szL t).symm
 by_cases c1 : t.data.toList.length > 200000
 ·rw [if_pos c1]
  rw [hsz] at c1
  simp (maxSteps := 1000000) (disch := (first | omega | assumption)) only [go_sem]
  rfl
 rw [if_neg c1]
 rw [hsz] at c1
 have he := each3_fcm t (by omega)
 have hq : (∀ x ∈ (ttT t.data.toList).1, x.frm.size ≤ 1000000 ∧ x.to.size ≤ 1000000) ∧ (ttT t.data.toList).1.length ≤ 1000000 := by
  have h1 := linesT_len t
  have h2 := eachT_size (linesA t.data.toList).2 1000000 (linesA t.data.toList).1 0 [] (fun x hx => by have := linesT_size t x hx; omega) (fun x hx => by cases hx)
  exact ⟨h2.1, Nat.le_trans h2.2 (by simp; omega)⟩
 generalize ttT t.data.toList = R at he hq ⊢
 obtain ⟨o, j, b⟩ := R
 simp only at he hq ⊢
 have hca := ckT_fc o hq.2 hq.1
 simp (maxSteps := 1000000) (disch := (first | omega | assumption)) only [go_sem]
 refine ⟨rfl, CALLM_rnE ⟨[(5, [.ow 5 0])], [(5, teRow o)]⟩ (.tu [iv j, bv b]) pRt qRt pRt_p qRt_q he (by simp) rfl rfl rfl rfl ⟨rfl, rfl⟩ ?_⟩
 cases b with
 | false =>
  rw [if_pos rfl]
  simp (maxSteps := 1000000) (disch := (first | omega | assumption)) only [go_sem]
  rfl
 | true =>
  rw [if_neg (by simp)]
  simp (maxSteps := 1000000) (disch := (first | omega | assumption)) only [go_sem]
  refine CALL_det hca (.inl rfl) ?_
  by_cases c2 : ctF o ≠ 0
  ·rw [if_pos c2]
   simp (maxSteps := 1000000) (disch := (first | omega | assumption)) only [go_sem]
   rfl
  ·rw [if_neg c2]
   simp (maxSteps := 1000000) (disch := (first | omega | assumption)) only [go_sem]
def pTx (k : Nat) : Nat := if k = 900005 then 1900001 else if k = 1900001 then 900005 else k
def qTx (k : Nat) : Nat := if k = 150005 then 1000002 else if k = 1000002 then 150005 else k
theorem pTx_p (k : Nat) : pTx (pTx k) = k := by unfold pTx; (repeat' split) <;> omega
theorem qTx_q (k : Nat) : qTx (qTx k) = k := by unfold qTx; (repeat' split) <;> omega
def tpC : Bool → Cel
 | false => .g (.pointer none)
 | true => .bx 900005 0
theorem tpC_t : tpC true = .bx 900005 0 := rfl
theorem tpC_f : tpC false = .g (.pointer none) := rfl
def txSt (l : List Trf) (i : Int) (o : List UInt8) (q : Bool) : AS := ⟨tabV [(5, .one (.bx 900005 0)), (13, trs false l), (14, iv l.length), (15, iv i), (900005, .any)], tabO [(900005, [tpC q, .ow 150005 0])], tabO [(150005, bRow o)]⟩
theorem datE_byt (l : List UInt8) : datE (l.map bytC) = l.map bytC := datE_map (fun _ => rfl) l
attribute [go_sem] datE_byt
theorem app_list (a b : ByteArray) : (a ++ b).data.toList = a.data.toList ++ b.data.toList := by rw [ByteArray.data_append, Array.toList_append]
theorem app_size (a b : ByteArray) : (a ++ b).size = a.size + b.size := ByteArray.size_append
/-- A line, as it is put together. -/
def lnB (x : Trf) : ByteArray := x.frm ++ ByteArray.mk #[32] ++ x.to ++ ByteArray.mk #[32] ++ itoaB x.amt ++ ByteArray.mk #[10]
theorem lnB_list (x : Trf) : (lnB x).data.toList = lineT x ++ [10] := by
 unfold lnB
 simp only [app_list]
 rw [show (itoaB x.amt).data.toList = (itB x.amt).data.toList from rfl]
 unfold lineT fldsT fldT
 simp [jn]
attribute [go_sem] app_size
theorem text_fc (l : List Trf) (h : ctF l = 0) : FC Tryz.prog 23 none [trs false l] (fun _ r => r = .tu [sv (bS (textT l)), iv 0]) := by
 have hok := trfOk_of h
 have hw := trfW_of hok
 have htl := textT_len l hw
 have hlen := hok.len
 have hca := ckT_fc l (by omega) (fun x hx => by have h1 := (hw x hx).f.2; have h2 := (hw x hx).t.2; omega)
 rw [h] at hca
 refine fc_text (by simp +arith) ?_
 unfold C_text
 simp (maxSteps := 1000000) (disch := (first | omega | assumption)) only [go_sem]
 refine CALL_det hca (.inl rfl) ?_
 simp (maxSteps := 1000000) (disch := (first | omega | assumption)) only [go_sem]
 refine ex_loop3 (fun i o q => txSt l i o q) (fun i o q => 0 ≤ i ∧ i ≤ l.length ∧ o ++ textT (l.drop i.toNat) = textT l) (fun i _ _ => (l.length - i).toNat) 0 [] false ⟨by omega, by omega, rfl⟩ rfl ?_
 rintro i o q ⟨g1, g2, g3⟩
 unfold txSt
 have ho : o.length ≤ (textT l).length := by rw [← g3, List.length_append]; omega
 by_cases hi : i < l.length
 ·have e2 : (i + 1).toNat = i.toNat + 1 := by omega
  have em := getD_map_at trC l i [] g1 hi
  have hx := hw _ (getD_mem l i.toNat (by omega))
  rw [drop_cons l i.toNat (by omega), textT_cons, ← e2, ← List.append_assoc] at g3
  have hb : big15 = 1000000000000000 := rfl
  have hn := hx.n
  have hit := itoa_fc (l.getD i.toNat default).amt ⟨by omega, by omega⟩
  have z1 := hx.f.2
  have z2 := hx.t.2
  have z3 : (itoaB (l.getD i.toNat default).amt).size ≤ 16 := (itB_wd hn).2.2.2
  have hdl := lnB_list (l.getD i.toNat default)
  have h32 : (ByteArray.mk #[32]).size = 1 := rfl
  have h10 : (ByteArray.mk #[10]).size = 1 := rfl
  unfold lnB at hdl
  clear hn hx
  generalize hs2 : ByteArray.mk #[32] = sp at *
  generalize hnl : ByteArray.mk #[10] = nl at *
  generalize hit0 : itoaB (l.getD i.toNat default).amt = ib at *
  cases q
  all_goals
   simp only [tpC_t, tpC_f]
   simp (maxSteps := 1000000) (disch := (first | omega | assumption)) only [go_sem]
   refine CALL_det hit (.inl rfl) ?_
   simp (maxSteps := 1000000) (disch := (first | omega | assumption)) only [go_sem]
   first | refine ⟨rfl, CALLM_rnE ⟨[(900005, [.bx 900005 0, .ow 150005 0])], [(150005, bRow (o ++ (lineT (l.getD i.toNat default) ++ [10])))]⟩ (.tu [iv ((l.getD i.toNat default).frm ++ sp ++ (l.getD i.toNat default).to ++ sp ++ ib ++ nl).size, .one (.g .nilIface)]) pTx qTx pTx_p qTx_q (writeString_fcm false o ((l.getD i.toNat default).frm ++ sp ++ (l.getD i.toNat default).to ++ sp ++ ib ++ nl) (by simp only [app_size]; omega)) (by simp) rfl rfl (by rw [hdl]; rfl) rfl ⟨rfl, rfl⟩ ?_⟩ | refine ⟨rfl, CALLM_rnE ⟨[(900005, [.bx 900005 0, .ow 150005 0])], [(150005, bRow (o ++ (lineT (l.getD i.toNat default) ++ [10])))]⟩ (.tu [iv ((l.getD i.toNat default).frm ++ sp ++ (l.getD i.toNat default).to ++ sp ++ ib ++ nl).size, .one (.g .nilIface)]) pTx qTx pTx_p qTx_q (writeString_fcm true o ((l.getD i.toNat default).frm ++ sp ++ (l.getD i.toNat default).to ++ sp ++ ib ++ nl) (by simp only [app_size]; omega)) (by simp) rfl rfl (by rw [hdl]; rfl) rfl ⟨rfl, rfl⟩ ?_⟩
   simp (maxSteps := 1000000) (disch := (first | omega | assumption)) only [go_sem]
   exact ⟨i + 1, o ++ (lineT (l.getD i.toNat default) ++ [10]), true, rfl, ⟨by omega, by omega, g3⟩, by omega⟩
 ·rw [List.drop_eq_nil_of_le (by omega)] at g3
  have g4 : o = textT l := by rw [← g3]; simp [textT]
  subst g4
  cases q
  all_goals
   simp only [tpC_t, tpC_f]
   simp (maxSteps := 1000000) (disch := (first | omega | assumption)) only [go_sem]
   first | refine ⟨rfl, CALLM_rnE ⟨[(900005, [.g (.pointer none), .ow 150005 0])], [(150005, bRow (textT l))]⟩ (iv (textT l).length) pTx qTx pTx_p qTx_q (blen_fcm false (textT l) (by omega)) (by simp) rfl rfl rfl rfl ⟨rfl, rfl⟩ ?_⟩ | refine ⟨rfl, CALLM_rnE ⟨[(900005, [.bx 900005 0, .ow 150005 0])], [(150005, bRow (textT l))]⟩ (iv (textT l).length) pTx qTx pTx_p qTx_q (blen_fcm true (textT l) (by omega)) (by simp) rfl rfl rfl rfl ⟨rfl, rfl⟩ ?_⟩
   simp (maxSteps := 1000000) (disch := (first | omega | assumption)) only [go_sem]
   first | refine ⟨rfl, CALLM_rnE ⟨[(900005, [.g (.pointer none), .any])], [(150005, bRow [])]⟩ (sv (bS (textT l))) pTx qTx pTx_p qTx_q (string_fcm false (textT l)) (by simp) rfl rfl rfl rfl ⟨rfl, rfl⟩ ?_⟩ | refine ⟨rfl, CALLM_rnE ⟨[(900005, [.bx 900005 0, .any])], [(150005, bRow [])]⟩ (sv (bS (textT l))) pTx qTx pTx_p qTx_q (string_fcm true (textT l)) (by simp) rfl rfl rfl rfl ⟨rfl, rfl⟩ ?_⟩
   simp (maxSteps := 1000000) (disch := (first | omega | assumption)) only [go_sem]
def pTl (k : Nat) : Nat := if k = 900003 then 1900001 else if k = 1900001 then 900003 else k
def qTl (k : Nat) : Nat := if k = 150003 then 1000002 else if k = 1000002 then 150003 else k
theorem pTl_p (k : Nat) : pTl (pTl k) = k := by unfold pTl; (repeat' split) <;> omega
theorem qTl_q (k : Nat) : qTl (qTl k) = k := by unfold qTl; (repeat' split) <;> omega
def tqC : Bool → Cel
 | false => .g (.pointer none)
 | true => .bx 900003 0
theorem tqC_t : tqC true = .bx 900003 0 := rfl
theorem tqC_f : tqC false = .g (.pointer none) := rfl
def tsSt (l : List Trf) (i : Int) (o : List UInt8) (q : Bool) : AS := ⟨tabV [(3, .one (.bx 900003 0)), (6, trs false l), (7, iv l.length), (8, iv i), (900003, .any)], tabO [(900003, [tqC q, .ow 150003 0])], tabO [(150003, bRow o)]⟩
theorem tlines_fc (l : List Trf) (h : ctF l = 0) : FC Tryz.prog 24 none [trs false l] (fun _ r => r = sv (bS (textT l))) := by
 have hok := trfOk_of h
 have hw := trfW_of hok
 have htl := textT_len l hw
 have hlen := hok.len
 refine fc_tlines (by simp +arith) ?_
 unfold C_tlines
 simp (maxSteps := 1000000) (disch := (first | omega | assumption)) only [go_sem]
 refine ex_loop3 (fun i o q => tsSt l i o q) (fun i o q => 0 ≤ i ∧ i ≤ l.length ∧ o ++ textT (l.drop i.toNat) = textT l) (fun i _ _ => (l.length - i).toNat) 0 [] false ⟨by omega, by omega, rfl⟩ rfl ?_
 rintro i o q ⟨g1, g2, g3⟩
 unfold tsSt
 have ho : o.length ≤ (textT l).length := by rw [← g3, List.length_append]; omega
 by_cases hi : i < l.length
 ·have e2 : (i + 1).toNat = i.toNat + 1 := by omega
  have em := getD_map_at trC l i [] g1 hi
  have hx := hw _ (getD_mem l i.toNat (by omega))
  rw [drop_cons l i.toNat (by omega), textT_cons, ← e2, ← List.append_assoc] at g3
  have hb : big15 = 1000000000000000 := rfl
  have hn := hx.n
  have hit := itoa_fc (l.getD i.toNat default).amt ⟨by omega, by omega⟩
  have z1 := hx.f.2
  have z2 := hx.t.2
  have z3 : (itoaB (l.getD i.toNat default).amt).size ≤ 16 := (itB_wd hn).2.2.2
  have hdl := lnB_list (l.getD i.toNat default)
  have h32 : (ByteArray.mk #[32]).size = 1 := rfl
  have h10 : (ByteArray.mk #[10]).size = 1 := rfl
  unfold lnB at hdl
  clear hn hx
  generalize hs2 : ByteArray.mk #[32] = sp at *
  generalize hnl : ByteArray.mk #[10] = nl at *
  generalize hit0 : itoaB (l.getD i.toNat default).amt = ib at *
  cases q
  all_goals
   simp only [tqC_t, tqC_f]
   simp (maxSteps := 1000000) (disch := (first | omega | assumption)) only [go_sem]
   refine CALL_det hit (.inl rfl) ?_
   simp (maxSteps := 1000000) (disch := (first | omega | assumption)) only [go_sem]
   first | refine ⟨rfl, CALLM_rnE ⟨[(900003, [.bx 900003 0, .ow 150003 0])], [(150003, bRow (o ++ (lineT (l.getD i.toNat default) ++ [10])))]⟩ (.tu [iv ((l.getD i.toNat default).frm ++ sp ++ (l.getD i.toNat default).to ++ sp ++ ib ++ nl).size, .one (.g .nilIface)]) pTl qTl pTl_p qTl_q (writeString_fcm false o ((l.getD i.toNat default).frm ++ sp ++ (l.getD i.toNat default).to ++ sp ++ ib ++ nl) (by simp only [app_size]; omega)) (by simp) rfl rfl (by rw [hdl]; rfl) rfl ⟨rfl, rfl⟩ ?_⟩ | refine ⟨rfl, CALLM_rnE ⟨[(900003, [.bx 900003 0, .ow 150003 0])], [(150003, bRow (o ++ (lineT (l.getD i.toNat default) ++ [10])))]⟩ (.tu [iv ((l.getD i.toNat default).frm ++ sp ++ (l.getD i.toNat default).to ++ sp ++ ib ++ nl).size, .one (.g .nilIface)]) pTl qTl pTl_p qTl_q (writeString_fcm true o ((l.getD i.toNat default).frm ++ sp ++ (l.getD i.toNat default).to ++ sp ++ ib ++ nl) (by simp only [app_size]; omega)) (by simp) rfl rfl (by rw [hdl]; rfl) rfl ⟨rfl, rfl⟩ ?_⟩
   simp (maxSteps := 1000000) (disch := (first | omega | assumption)) only [go_sem]
   exact ⟨i + 1, o ++ (lineT (l.getD i.toNat default) ++ [10]), true, rfl, ⟨by omega, by omega, g3⟩, by omega⟩
 ·rw [List.drop_eq_nil_of_le (by omega)] at g3
  have g4 : o = textT l := by rw [← g3]; simp [textT]
  subst g4
  cases q
  all_goals
   simp only [tqC_t, tqC_f]
   simp (maxSteps := 1000000) (disch := (first | omega | assumption)) only [go_sem]
   first | refine ⟨rfl, CALLM_rnE ⟨[(900003, [.g (.pointer none), .any])], [(150003, bRow [])]⟩ (sv (bS (textT l))) pTl qTl pTl_p qTl_q (string_fcm false (textT l)) (by simp) rfl rfl rfl rfl ⟨rfl, rfl⟩ ?_⟩ | refine ⟨rfl, CALLM_rnE ⟨[(900003, [.bx 900003 0, .any])], [(150003, bRow [])]⟩ (sv (bS (textT l))) pTl qTl pTl_p qTl_q (string_fcm true (textT l)) (by simp) rfl rfl rfl rfl ⟨rfl, rfl⟩ ?_⟩
   simp (maxSteps := 1000000) (disch := (first | omega | assumption)) only [go_sem]
structure TsX where
 i : Int
 q : Int
 t : ByteArray
def strSt (L : List Int) (n : Int) (x : TsX) : AS := ⟨tabV [(0, .one (.bx 0 0)), (3, sv x.t), (9, iv n), (10, iv x.i)], tabO [(0, strm L x.q)], tabO []⟩
theorem trString_det : GenD Tryz.prog 25 [] 2000 (fun r => ∃ b : ByteArray, b.size ≤ 1000000 ∧ r = sv b) := by
 refine genD_of (fun L p R' h => fc_tstr (xt := some (strm L p)) (args := []) (R := R') (by simp +arith) h) ?_
 intro L p hL hl h0 hp
 unfold C_tstr strm
 simp (maxSteps := 1000000) (disch := (first | omega | assumption)) only [go_sem]
 obtain ⟨⟨pa, ra⟩, ⟨haa, hba, l, hf0, hl3, hsm, rfl⟩, hfa⟩ := rightTr_det L p hL hl (by omega) (by omega)
 simp only at haa hba hfa
 refine exX hfa rfl rfl ?_
 unfold strm
 simp (maxSteps := 1000000) (disch := (first | omega | assumption)) only [go_sem]
 have htl := textT_len l (trfW_of (trfOk_of hf0))
 refine exC (tlines_fc l hf0) (.inl rfl) ?_
 simp (maxSteps := 1000000) (disch := (first | omega | assumption)) only [go_sem]
 obtain ⟨⟨pb, rb⟩, ⟨hab, hbb, zb, kb, rfl⟩, hfb⟩ := (pick_det false [0, 0, 1, 2] (by simp) (by simp)) L pa hL hl (by omega) (by omega)
 simp only at hab hbb hfb
 refine exX hfb rfl rfl ?_
 unfold strm
 simp (maxSteps := 1000000) (disch := omega) only [go_sem]
 have hz2 : 0 ≤ zb ∧ zb ≤ 2 := by simp at kb; omega
 refine loopD (strSt L zb) (fun x => 0 ≤ x.i ∧ x.i ≤ zb ∧ p ≤ x.q ∧ x.q ≤ p + 1001 + 3 * x.i ∧ (x.i = 0 → x.t.size ≤ 2500) ∧ (x.i = 1 → x.t.size ≤ 6000) ∧ x.t.size ≤ 20000) (fun x => (zb - x.i).toNat) ⟨0, pb, bS (textT l)⟩ ⟨by simp, by simp; omega, by simp only; omega, by simp only; omega, fun _ => by simp only [bS_size]; omega, fun h => by simp at h, by simp only [bS_size]; omega⟩ rfl ?_
 rintro G ⟨i, q, t⟩ ⟨g1, g2, g3, g4, g5, g6, g7⟩ IH
 simp only at g1 g2 g3 g4 g5 g6 g7
 unfold strSt strm
 by_cases hi : i < zb
 ·simp (maxSteps := 1000000) (disch := omega) only [go_sem]
  obtain ⟨⟨pc, rc⟩, ⟨hac, hbc, b, hb, rfl⟩, hfc⟩ := changed_det t (ByteArray.mk #[32, 10, 48, 49, 98, 45]) (by omega) (of_decide_eq_true (by kernel_rfl)) L q hL hl (by omega) (by omega)
  simp only at hac hbc hfc
  refine exX hfc rfl rfl ?_
  unfold strm
  simp (maxSteps := 1000000) (disch := omega) only [go_sem]
  obtain ⟨y, hB, hG⟩ := IH ⟨i + 1, pc, b⟩ ⟨by simp only; omega, by simp only; omega, by simp only; omega, by simp only; omega, fun h => by simp only at h; omega, fun h => by simp only at h ⊢; have := g5 (by omega); omega, by
   simp only
   have : i = 0 ∨ i = 1 := by omega
   rcases this with h | h
   ·have := g5 h; omega
   ·have := g6 h; omega⟩ (by simp only; omega)
  exact ⟨y, hB, _, rfl, by simp only; omega, hG⟩
 ·clear IH
  simp (maxSteps := 1000000) (disch := omega) only [go_sem]
  exact ⟨(q, _), ⟨by simp only; omega, by simp only; omega, t, by omega, rfl⟩, rfl, rfl⟩
end Go.Proofs.YtodmofhehabmgaaGreatDoor

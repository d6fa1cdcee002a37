/-
 A text that is changed at a place; a text of alarms, nearly always a right one.
-/
import Derived.Test.YtfgkpbkphmeigaaGreatDoorTxt
import Derived.Test.YtfgkpbkphmeigaaGreatDoorGdt
namespace Go.Proofs.YtfgkpbkphmeigaaGreatDoor
open Go Go.Ai
set_option linter.unusedSimpArgs false
set_option linter.unusedVariables false
set_option maxHeartbeats 4000000
def C_changed : AC := (.seq (.reg false [gI 6 (.mv (.v (.string (ByteArray.mk #[]))))] (kP [0,1,2] [0] []))
 (.seq (.seq (.reg false [gM 9 1,gI 10 (.bin .eql (.t 9) (.v (.string (ByteArray.mk #[])))),gM 11 10,gG 12 11 false (.mv (.t 2)),gG 13 11 false (.bin .eql (.t 12) (.v (.string (ByteArray.mk #[])))),gI 14 (.pick (.t 11) (.v (.bool true)) (.t 13))] (kP [0,1,2,14] [0] []))
 (.cond (.t 14)
 (.seq (.reg false [gM 15 2,gM 6 15] (kP [6] [0] []))
 .ret)
 .skip))
 (.seq (.reg false [gM 16 0,gM 17 1,gI 18 (.slen (.t 17)),gI 19 (.callx (.f 71) [(.t 16),(.t 18)]),gM 7 19] (kP [0,1,2,7] [0] []))
 (.seq (.reg false [gM 20 2,gM 21 0,gM 22 2,gI 23 (.slen (.t 22)),gI 24 (.callx (.f 71) [(.t 21),(.t 23)]),gI 25 (.idx (.t 20) (.t 24)),gM 8 25] (kP [0,1,7,8] [0] []))
 (.seq (.seq (.reg false [gM 26 0,gI 27 (.callx (.f 71) [(.t 26),(oI 3)])] (kP [1,7,8,27] [0] []))
 (.block 0 (.seq (.reg false [gI 29 (.bin .eql (.t 27) (oI 0)),gM 28 29] (kP [1,7,8,27,28] [0] []))
 (.cond (.t 28)
 (.seq (.reg true [gM 30 1,gM 31 7,gI 32 (.ssub (.t 30) none (some (.t 31))),gM 33 8,gI 34 (.conv .i32 (.t 33)),gI 35 (.chr (.t 34)),gI 36 (.bin .add (.t 32) (.t 35)),gM 37 1,gM 38 7,gI 39 (.bin .add (.t 38) (oI 1)),gI 40 (.ssub (.t 37) (some (.t 39)) none),gI 41 (.bin .add (.t 36) (.t 40)),gM 6 41] (kP [6] [0] []))
 .ret)
 (.seq (.reg false [gI 43 (.bin .eql (.t 27) (oI 1)),gM 42 43] (kP [1,7,8,42] [0] []))
 (.cond (.t 42)
 (.seq (.reg true [gM 44 1,gM 45 7,gI 46 (.ssub (.t 44) none (some (.t 45))),gM 47 8,gI 48 (.conv .i32 (.t 47)),gI 49 (.chr (.t 48)),gI 50 (.bin .add (.t 46) (.t 49)),gM 51 1,gM 52 7,gI 53 (.ssub (.t 51) (some (.t 52)) none),gI 54 (.bin .add (.t 50) (.t 53)),gM 6 54] (kP [6] [0] []))
 .ret)
 .skip))))))
 (.seq (.reg true [gM 55 1,gM 56 7,gI 57 (.ssub (.t 55) none (some (.t 56))),gM 58 1,gM 59 7,gI 60 (.bin .add (.t 59) (oI 1)),gI 61 (.ssub (.t 58) (some (.t 60)) none),gI 62 (.bin .add (.t 57) (.t 61)),gM 6 62] (kP [6] [0] []))
 .ret))))))
theorem fc_changed : FcT Tryz.prog 103 Tryz.f103 C_changed [.t 6] := fc_mk [aN [0,1,2] [0] [],aN [0,1,2,14] [0] [],aN [6] [0] [],aN [0,1,2,7] [0] [],aN [0,1,7,8] [0] [],aN [1,7,8,27] [0] [],aN [1,7,8,27,28] [0] [],aN [6] [0] [],aN [1,7,8,42] [0] [],aN [6] [0] [],aN [6] [0] []] Tryz.func103 (by kernel_rfl)
theorem enc_size (r : Int) : (Utf8.encode r).size ≤ 4 := by
 unfold Utf8.encode
 simp only
 (repeat' split) <;> simp [ByteArray.size]
theorem ext_size (t : ByteArray) (i j : Nat) : (t.extract i j).size ≤ t.size := by
 rw [ByteArray.size_extract]; omega
theorem ap_size (a b : ByteArray) : (a ++ b).size = a.size + b.size := ByteArray.size_append
theorem nat_fit {a b : Nat} (h : a ≤ b) (hb : b ≤ 90000000) : (a : Int) ≤ 9223372036854775807 := by omega
theorem changed_det (t w : ByteArray) (ht : t.size ≤ 1000000) (hw : 1 ≤ w.size ∧ w.size ≤ 1000) : GenD Tryz.prog 103 [sv t, sv w] 3 (fun r => ∃ b : ByteArray, b.size ≤ 2 * t.size + 1000 ∧ r = sv b) := by
 refine genD_of (fun L p R' h => fc_changed (xt := some (strm L p)) (args := [sv t, sv w]) (R := R') (by simp +arith) h) ?_
 intro L p hL hl h0 hp
 unfold C_changed strm
 by_cases c1 : t = ByteArray.mk #[]
 ·simp (maxSteps := 1000000) (disch := (first | omega | assumption)) only [go_sem]
  exact ⟨(p, _), ⟨by simp only; omega, by simp only; omega, w, by omega, rfl⟩, rfl, rfl⟩
 ·have c2 : ¬w = ByteArray.mk #[] := fun h => by rw [h] at hw; exact absurd hw.1 (by decide)
  have c3 : 1 ≤ t.size := by
   rcases Nat.eq_zero_or_pos t.size with h | h
   ·exact absurd (ba_ext (List.eq_nil_of_length_eq_zero ((szL t).symm.trans h))) c1
   ·exact h
  simp (maxSteps := 1000000) (disch := (first | omega | assumption)) only [go_sem]
  obtain ⟨⟨pa, ra⟩, ⟨haa, hba, za, ka, na, rfl⟩, hfa⟩ := (next_det (t.size) (by omega) (by omega)) L p hL hl (by omega) (by omega)
  simp only at haa hba hfa
  refine exX hfa rfl rfl ?_
  unfold strm
  simp (maxSteps := 1000000) (disch := omega) only [go_sem]
  obtain ⟨⟨pb, rb⟩, ⟨hab, hbb, zb, kb, nb, rfl⟩, hfb⟩ := (next_det (w.size) (by omega) (by omega)) L pa hL hl (by omega) (by omega)
  simp only at hab hbb hfb
  refine exX hfb rfl rfl ?_
  unfold strm
  simp (maxSteps := 1000000) (disch := omega) only [go_sem]
  obtain ⟨⟨pc, rc⟩, ⟨hac, hbc, zc, kc, nc, rfl⟩, hfc⟩ := (next_det 3 (by omega) (by omega)) L pb hL hl (by omega) (by omega)
  simp only at hac hbc hfc
  refine exX hfc rfl rfl ?_
  unfold strm
  simp (maxSteps := 1000000) (disch := omega) only [go_sem]
  have x1 := ext_size t 0 za.toNat
  have x2 := ext_size t (za + 1).toNat t.size
  have x3 := ext_size t za.toNat t.size
  by_cases d0 : zc = 0
  ·simp only [d0, forall_const, not_true_eq_false, false_implies, and_true, NEED]
   exact ⟨(pc, _), ⟨by simp only; omega, by simp only; omega, _, by
    rw [ap_size, ap_size]
    exact Nat.le_trans (Nat.add_le_add (Nat.add_le_add x1 (enc_size _)) x2) (by omega), rfl⟩, nat_fit (Nat.add_le_add x1 (enc_size _)) (by omega), nat_fit (Nat.add_le_add (Nat.add_le_add x1 (enc_size _)) x2) (by omega), rfl, rfl⟩
  by_cases d1 : zc = 1
  ·have d2 := eq_true d1
   simp only [d0, d2, forall_const, not_true_eq_false, not_false_eq_true, false_implies, true_and, and_true, NEED]
   exact ⟨(pc, _), ⟨by simp only; omega, by simp only; omega, _, by
    rw [ap_size, ap_size]
    exact Nat.le_trans (Nat.add_le_add (Nat.add_le_add x1 (enc_size _)) x3) (by omega), rfl⟩, nat_fit (Nat.add_le_add x1 (enc_size _)) (by omega), nat_fit (Nat.add_le_add (Nat.add_le_add x1 (enc_size _)) x3) (by omega), rfl, rfl⟩
  simp only [d0, d1, forall_const, not_true_eq_false, not_false_eq_true, false_implies, true_and, and_true, NEED]
  have x5 : t.size + t.size ≤ 2000000 := by omega
  have hns : (t.extract 0 za.toNat).size + (t.extract (za + 1).toNat t.size).size ≤ t.size := by
   rw [ByteArray.size_extract, ByteArray.size_extract]; omega
  exact ⟨(pc, _), ⟨by simp only; omega, by simp only; omega, _, by rw [ap_size]; omega, rfl⟩, nat_fit hns (by omega), rfl, rfl⟩
end Go.Proofs.YtfgkpbkphmeigaaGreatDoor

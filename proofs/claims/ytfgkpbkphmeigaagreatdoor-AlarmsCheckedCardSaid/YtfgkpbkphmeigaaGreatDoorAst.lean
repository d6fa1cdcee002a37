/-
 A text of alarms, nearly always a right one.
-/
import Derived.Test.YtfgkpbkphmeigaaGreatDoorAls
import Derived.Test.YtfgkpbkphmeigaaGreatDoorChg
import Derived.Test.YtfgkpbkphmeigaaGreatDoorAgl
namespace Go.Proofs.YtfgkpbkphmeigaaGreatDoor
open Go Go.Ai
set_option linter.unusedSimpArgs false
set_option linter.unusedVariables false
set_option maxHeartbeats 4000000
def C_astr : AC := (.seq (.reg false [gI 2 (.mv (.v (.string (ByteArray.mk #[]))))] (kP [0] [0] []))
 (.seq (.reg false [gM 4 0,gI 5 (.callx (.f 102) [(.t 4)]),gI 6 (.call (.f 23) [(.t 5)]),gM 3 6] (kP [0,3] [0] []))
 (.seq (.seq (.reg false [gM 7 0,gI 8 (.bslice 1 4 [(oI 0),(oI 0),(oI 1),(oI 2)]),gI 9 (.callx (.f 55) [(.t 7),(.t 8)]),gI 10 (.mv (oI 0))] (kP [0,3,9,10] [0] []))
 (.block 0 (.loop (.seq (.reg false [gI 11 (.bin .lss (.t 10) (.t 9))] (kP [0,3,9,10,11] [0] []))
 (.seq (.cond (.t 11)
 .skip
 (.exit 0))
 (.seq (.block 1 (.reg false [gM 12 0,gM 13 3,gI 14 (.callx (.f 103) [(.t 12),(.t 13),(.v (.string (ByteArray.mk #[32,10,48,49,97,104,45])))]),gM 3 14] (kP [0,3,9,10] [0] [])))
 (.reg false [gI 15 (.bin .add (.t 10) (oI 1)),gM 10 15] (kP [0,3,9,10] [0] []))))))))
 (.seq (.reg false [gM 16 3,gM 2 16] (kP [2] [0] []))
 .ret))))
theorem fc_astr : FcT Tryz.prog 24 Tryz.f24 C_astr [.t 2] := fc_mk [aN [0] [0] [],aN [0,3] [0] [],aN [0,3,9,10] [0] [],aN [0,3,9,10,11] [0] [],aN [0,3,9,10] [0] [],aN [0,3,9,10] [0] [],aN [2] [0] []] Tryz.func24 (by kernel_rfl)
structure AsX where
 i : Int
 q : Int
 t : ByteArray
def asSt (L : List Int) (n : Int) (x : AsX) : AS := ⟨tabV [(0, .one (.bx 0 0)), (3, sv x.t), (9, iv n), (10, iv x.i)], tabO [(0, strm L x.q)], tabO []⟩
theorem alarmString_det : GenD Tryz.prog 24 [] 2000 (fun r => ∃ b : ByteArray, b.size ≤ 1000000 ∧ r = sv b) := by
 refine genD_of (fun L p R' h => fc_astr (xt := some (strm L p)) (args := []) (R := R') (by simp +arith) h) ?_
 intro L p hL hl h0 hp
 unfold C_astr strm
 simp (maxSteps := 1000000) (disch := (first | omega | assumption)) only [go_sem]
 obtain ⟨⟨pa, ra⟩, ⟨haa, hba, l, hf0, hl3, hsm, rfl⟩, hfa⟩ := rightAlarms_det L p hL hl (by omega) (by omega)
 simp only at haa hba hfa
 refine exX hfa rfl rfl ?_
 unfold strm
 simp (maxSteps := 1000000) (disch := (first | omega | assumption)) only [go_sem]
 have htl := text_len l (almW_of (almOk_of hf0))
 refine exC (alines_fc l (almOk_of hf0)) (.inl rfl) ?_
 simp (maxSteps := 1000000) (disch := (first | omega | assumption)) only [go_sem]
 obtain ⟨⟨pb, rb⟩, ⟨hab, hbb, zb, kb, rfl⟩, hfb⟩ := (pick_det false [0, 0, 1, 2] (by simp) (by simp)) L pa hL hl (by omega) (by omega)
 simp only at hab hbb hfb
 refine exX hfb rfl rfl ?_
 unfold strm
 simp (maxSteps := 1000000) (disch := omega) only [go_sem]
 have hz2 : 0 ≤ zb ∧ zb ≤ 2 := by simp at kb; omega
 refine loopD (asSt L zb) (fun x => 0 ≤ x.i ∧ x.i ≤ zb ∧ p ≤ x.q ∧ x.q ≤ p + 1001 + 3 * x.i ∧ (x.i = 0 → x.t.size ≤ 1300) ∧ (x.i = 1 → x.t.size ≤ 3600) ∧ x.t.size ≤ 10000) (fun x => (zb - x.i).toNat) ⟨0, pb, bS (textA l)⟩ ⟨by simp, by simp; omega, by simp only; omega, by simp only; omega, fun _ => by simp only [bS_size]; omega, fun h => by simp at h, by simp only [bS_size]; omega⟩ rfl ?_
 rintro G ⟨i, q, t⟩ ⟨g1, g2, g3, g4, g5, g6, g7⟩ IH
 simp only at g1 g2 g3 g4 g5 g6 g7
 unfold asSt strm
 by_cases hi : i < zb
 ·simp (maxSteps := 1000000) (disch := omega) only [go_sem]
  obtain ⟨⟨pc, rc⟩, ⟨hac, hbc, b, hb, rfl⟩, hfc⟩ := changed_det t (ByteArray.mk #[32, 10, 48, 49, 97, 104, 45]) (by omega) (of_decide_eq_true (by kernel_rfl)) L q hL hl (by omega) (by omega)
  simp only at hac hbc hfc
  refine exX hfc rfl rfl ?_
  unfold strm
  simp (maxSteps := 1000000) (disch := omega) only [go_sem]
  obtain ⟨y, hB, hG⟩ := IH ⟨i + 1, pc, b⟩ ⟨by simp only; omega, by simp only; omega, by simp only; omega, by simp only; omega, fun h => by simp only at h; omega, fun h => by simp only at h ⊢; have := g5 (by omega); omega, by
   simp only
   have : i = 0 ∨ i = 1 := by omega
   rcases this with h | h
   ·have := g5 h; omega
   ·have := g6 h; omega⟩ (by simp only; omega)
  exact ⟨y, hB, _, rfl, by simp only; omega, hG⟩
 ·clear IH
  simp (maxSteps := 1000000) (disch := omega) only [go_sem]
  exact ⟨(q, _), ⟨by simp only; omega, by simp only; omega, t, by omega, rfl⟩, rfl, rfl⟩
end Go.Proofs.YtfgkpbkphmeigaaGreatDoor

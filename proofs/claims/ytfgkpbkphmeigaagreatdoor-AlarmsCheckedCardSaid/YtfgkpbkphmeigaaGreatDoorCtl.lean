/-
 The reference reads alarms: strings.Cut at the end of a line, a line, all lines.
-/
import Derived.Test.YtfgkpbkphmeigaaGreatDoorGrw
import Derived.Test.YtfgkpbkphmeigaaGreatDoorRin
import Derived.Test.YtfgkpbkphmeigaaGreatDoorArp
import Derived.Test.YtfgkpbkphmeigaaGreatDoorAls
import Derived.Test.YtfgkpbkphmeigaaGreatDoorRea
namespace Go.Proofs.YtfgkpbkphmeigaaGreatDoor
open Go Go.Ai
set_option linter.unusedSimpArgs false
set_option linter.unusedVariables false
set_option maxHeartbeats 4000000
def C_cutL : AC := (.seq (.reg false [gI 4 (.mv (.v (.string (ByteArray.mk #[])))),gI 5 (.mv (.v (.string (ByteArray.mk #[])))),gI 6 (.mv (.v (.bool false)))] (kP [0,1] [] []))
 (.seq (.seq (.reg false [gM 8 0,gM 9 1,gI 10 (.call (.f 323) [(.t 8),(.t 9)]),gM 7 10] (kP [0,1,7] [] []))
 (.seq (.reg false [gM 11 7,gI 12 (.bin .geq (.t 11) (oI 0))] (kP [0,1,7,12] [] []))
 (.cond (.t 12)
 (.seq (.reg true [gM 13 0,gM 14 7,gI 15 (.ssub (.t 13) none (some (.t 14))),gM 16 0,gM 17 7,gM 18 1,gI 19 (.slen (.t 18)),gI 20 (.bin .add (.t 17) (.t 19)),gI 21 (.ssub (.t 16) (some (.t 20)) none),gM 4 15,gM 5 21,gI 6 (.mv (.v (.bool true)))] (kP [4,5,6] [] []))
 .ret)
 .skip)))
 (.seq (.reg false [gM 22 0,gM 4 22,gI 5 (.mv (.v (.string (ByteArray.mk #[])))),gI 6 (.mv (.v (.bool false)))] (kP [4,5,6] [] []))
 .ret)))
theorem fc_cutL : FcT Tryz.prog 260 Tryz.f260 C_cutL [.t 4, .t 5, .t 6] := fc_mk [aN [0,1] [] [],aN [0,1,7] [] [],aN [0,1,7,12] [] [],aN [4,5,6] [] [],aN [4,5,6] [] []] Tryz.func260 (by kernel_rfl)
def C_cutF : AC := (.seq (.reg false [gI 4 (.mv (.v (.string (ByteArray.mk #[])))),gI 5 (.mv (.v (.string (ByteArray.mk #[])))),gI 6 (.mv (.v (.bool false)))] (kP [0,1] [] []))
 (.seq (.reg false [gM 7 0,gM 8 1,gI 9 (.call (.f 260) [(.t 7),(.t 8)]),gI 10 (.extr (.t 9) 0),gI 11 (.extr (.t 9) 1),gI 12 (.extr (.t 9) 2),gM 4 10,gM 5 11,gM 6 12] (kP [4,5,6] [] []))
 .ret))
theorem fc_cutF : FcT Tryz.prog 194 Tryz.f194 C_cutF [.t 4, .t 5, .t 6] := fc_mk [aN [0,1] [] [],aN [4,5,6] [] []] Tryz.func194 (by kernel_rfl)
def C_splR : AC := (.seq (.reg false [gI 4 (.mv (.v (.slice none 0 0)))] (kP [0,1] [] [600]))
 (.seq (.reg false [gM 5 0,gM 6 1,gI 7 (.callm (.f 195) [(.t 5),(.t 6),(oI 0),(oI (-1))] ⟨[],[],[],[600],[]⟩),gM 4 7] (kP [4] [] [600]))
 .ret))
theorem fcm_splR : FmT Tryz.prog 109 Tryz.f109 C_splR [.t 4] := fcm_mk [aN [0,1] [] [600],⟨(kP [4] [] [600]),[],[],[],[(7,⟨[],[],[],[600],[]⟩)]⟩] Tryz.func109 (by kernel_rfl)
theorem idxL_fc (s : ByteArray) (c : UInt8) : FC Tryz.prog 323 none [sv s, sv ⟨#[c]⟩] (fun _ r => r = iv (Lib.indexByte s.data.toList c)) :=
 fc_data [.string s, .string ⟨#[c]⟩] ⟨Tryz.f323, Tryz.func323, by kernel_rfl, by kernel_rfl⟩ rfl fun w => Any.stringslite_Index_one { Llays221 with } s c w
theorem idx_cut : ∀ (t : List UInt8), Lib.indexByte t 10 = if (10 : UInt8) ∈ t then ((cutA t).length : Int) else -1
 | [] => rfl
 | b :: t => by
  have ih := idx_cut t
  rw [Lib.indexByte]
  by_cases e : b = 10
  ·subst e
   rw [if_pos (by rfl), if_pos (by simp)]
   unfold cutA; simp
  ·rw [if_neg (by simpa using e), ih]
   have hb : (b != 10) = true := by simpa using e
   by_cases h : (10 : UInt8) ∈ t
   ·have hl : (cutA (b :: t)).length = (cutA t).length + 1 := by unfold cutA; rw [List.takeWhile_cons, if_pos hb, List.length_cons]
    rw [if_pos h, if_pos (List.mem_cons_of_mem _ h), if_neg (by simp), hl]
    omega
   ·have hm : (10 : UInt8) ∉ b :: t := fun h2 => by
     rcases List.mem_cons.1 h2 with r | r
     ·exact e r.symm
     ·exact h r
    rw [if_neg h, if_neg hm, if_pos (by rfl)]
def ctS (s : ByteArray) : Val := if (10 : UInt8) ∈ s.data.toList then .tu [sv (bS (cutA s.data.toList)), sv (bS (cutZ s.data.toList)), bv true] else .tu [sv s, sv emp, bv false]
theorem cut_fc (s : ByteArray) (hs : s.size ≤ 1000000) : FC Tryz.prog 194 none [sv s, sv ⟨#[10]⟩] (fun _ r => r = ctS s) := by
 have hL : FC Tryz.prog 260 none [sv s, sv ⟨#[10]⟩] (fun _ r => r = ctS s) := by
  refine fc_cutL (by simp +arith) ?_
  unfold C_cutL ctS
  have hi := idxL_fc s 10
  rw [idx_cut] at hi
  by_cases h : (10 : UInt8) ∈ s.data.toList
  ·rw [if_pos h] at hi ⊢
   have hl := cut_len h
   rw [← szL] at hl
   obtain ⟨e1, _⟩ := cutL_is h
   have key : ∀ (l A Z : List UInt8), l = A ++ 10 :: Z → A = l.take A.length ∧ Z = l.drop (A.length + 1) := by
    rintro l A Z rfl
    simp
   have h10 : (#[(10 : UInt8)]).size = 1 := rfl
   have hA : bS (cutA s.data.toList) = s.extract 0 (cutA s.data.toList).length := ba_ext (by
    rw [ext_list, bS_list, List.drop_zero]
    exact (key _ _ _ e1).1)
   have hZ : bS (cutZ s.data.toList) = s.extract ((cutA s.data.toList).length + 1) s.size := ba_ext (by
    rw [ext_list, bS_list, szL, List.take_length]
    exact (key _ _ _ e1).2)
   rw [hA, hZ]
   generalize (cutA s.data.toList).length = n at *
   have hnn : ((n : Int) + ((#[(10 : UInt8)]).size : Nat)).toNat = n + 1 := by omega
   simp (maxSteps := 1000000) (disch := (first | omega | assumption)) only [go_sem]
   refine CALL_det hi (.inl rfl) ?_
   simp (maxSteps := 1000000) (disch := (first | omega | assumption)) only [go_sem]
   rw [hnn]
  ·rw [if_neg h] at hi ⊢
   simp (maxSteps := 1000000) (disch := (first | omega | assumption)) only [go_sem]
   refine CALL_det hi (.inl rfl) ?_
   simp (maxSteps := 1000000) (disch := (first | omega | assumption)) only [go_sem]
 refine fc_cutF (by simp +arith) ?_
 unfold C_cutF
 simp (maxSteps := 1000000) (disch := (first | omega | assumption)) only [go_sem]
 unfold ctS at hL ⊢
 by_cases h : (10 : UInt8) ∈ s.data.toList
 ·rw [if_pos h] at hL ⊢
  refine CALL_det hL (.inl rfl) ?_
  simp (maxSteps := 1000000) (disch := (first | omega | assumption)) only [go_sem]
 ·rw [if_neg h] at hL ⊢
  refine CALL_det hL (.inl rfl) ?_
  simp (maxSteps := 1000000) (disch := (first | omega | assumption)) only [go_sem]
end Go.Proofs.YtfgkpbkphmeigaaGreatDoor

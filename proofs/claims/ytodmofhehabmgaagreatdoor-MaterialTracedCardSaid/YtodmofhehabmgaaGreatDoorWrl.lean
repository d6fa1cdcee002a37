/-
 Numbers, words and lines of a text: lists of them.
-/
import Derived.Test.YtodmofhehabmgaaGreatDoorWrd
namespace Go.Proofs.YtodmofhehabmgaaGreatDoor
open Go Go.Ai
set_option linter.unusedSimpArgs false
set_option linter.unusedVariables false
set_option maxHeartbeats 4000000
def C_lines : AC := (.seq (.reg false [gI 2 (.mv (.v (.slice none 0 0))),gI 3 (.mv (.v (.bool false)))] (kP [0] [] []))
 (.seq (.seq (.reg false [gM 5 0,gI 6 (.bin .eql (.t 5) (.v (.string (ByteArray.mk #[]))))] (kP [0,6] [] []))
 (.cond (.t 6)
 (.seq (.seq (.reg false [gI 2 (.mv (.v (.slice none 0 0))),gI 3 (.mv (.v (.bool true)))] (kP [2,3] [] []))
 (.ty 2 1))
 .ret)
 .skip))
 (.seq (.reg false [gM 8 0,gI 9 (.call (.f 140) [(.t 8),(.v (.string (ByteArray.mk #[10])))]),gM 7 9,gI 10 (.extr (.t 7) 0),gI 11 (.extr (.t 7) 1),gM 4 10,gM 3 11] (kP [3,4] [] []))
 (.seq (.reg false [gM 12 4,gI 13 (.call (.f 76) [(.t 12),(.v (.string (ByteArray.mk #[10])))]),gM 14 3,gM 2 13,gM 3 14] (kP [2,3] [] []))
 .ret))))
theorem fc_lines : FcT Tryz.prog 102 Tryz.f102 C_lines [.t 2, .t 3] := fc_mk [aN [0] [] [],aN [0,6] [] [],⟨(kP [2,3] [] []),[],[],[(2,1)],[]⟩,aN [3,4] [] [],aN [2,3] [] []] Tryz.func102 (by kernel_rfl)
def C_words : AC := (.seq (.reg false [gI 4 (.mv (.v (.slice none 0 0))),gI 5 (.mv (.v (.bool false)))] (kP [0,1] [] []))
 (.seq (.reg false [gM 9 0,gI 10 (.call (.f 76) [(.t 9),(.v (.string (ByteArray.mk #[32])))]),gM 6 10] (kP [1,6] [] []))
 (.seq (.seq (.reg false [gM 11 6,gI 12 (.len (.t 11)),gM 13 1,gI 14 (.bin .neq (.t 12) (.t 13))] (kP [6,14] [] []))
 (.cond (.t 14)
 (.seq (.seq (.reg false [gI 4 (.mv (.v (.slice none 0 0))),gI 5 (.mv (.v (.bool false)))] (kP [4,5] [] []))
 (.ty 4 1))
 .ret)
 .skip))
 (.seq (.seq (.reg false [gM 15 6,gI 16 (.len (.t 15)),gI 17 (.mv (oI 0))] (kP [6,15,16,17] [] []))
 (.block 0 (.loop (.seq (.reg false [gI 18 (.bin .lss (.t 17) (.t 16))] (kP [6,15,16,17,18] [] []))
 (.seq (.cond (.t 18)
 .skip
 (.exit 0))
 (.seq (.block 1 (.seq (.reg false [gI 19 (.iadr 1 (.t 15) (.t 17)),gI 20 (.load false 1 (.t 19)),gM 8 20] (kP [6,8,15,16,17] [] []))
 (.seq (.reg false [gM 21 8,gI 22 (.bin .eql (.t 21) (.v (.string (ByteArray.mk #[]))))] (kP [6,15,16,17,22] [] []))
 (.cond (.t 22)
 (.seq (.seq (.reg false [gI 4 (.mv (.v (.slice none 0 0))),gI 5 (.mv (.v (.bool false)))] (kP [4,5] [] []))
 (.ty 4 1))
 .ret)
 .skip))))
 (.reg false [gI 23 (.bin .add (.t 17) (oI 1)),gM 17 23] (kP [6,15,16,17] [] []))))))))
 (.seq (.reg false [gM 24 6,gM 4 24,gI 5 (.mv (.v (.bool true)))] (kP [4,5] [] []))
 .ret)))))
theorem fc_words : FcT Tryz.prog 72 Tryz.f72 C_words [.t 4, .t 5] := fc_mk [aN [0,1] [] [],aN [1,6] [] [],aN [6,14] [] [],⟨(kP [4,5] [] []),[],[],[(4,1)],[]⟩,aN [6,15,16,17] [] [],aN [6,15,16,17,18] [] [],aN [6,8,15,16,17] [] [],aN [6,15,16,17,22] [] [],⟨(kP [4,5] [] []),[],[],[(4,1)],[]⟩,aN [6,15,16,17] [] [],aN [4,5] [] []] Tryz.func72 (by kernel_rfl)
def C_containsS : AC := (.seq (.reg false [gI 4 (.mv (.v (.bool false)))] (kP [0,1] [] []))
 (.seq (.reg false [gM 5 0,gM 6 1,gI 7 (.call (.f 89) [(.t 5),(.t 6)]),gI 8 (.bin .geq (.t 7) (oI 0)),gM 4 8] (kP [4] [] []))
 .ret))
theorem fc_containsS : FcT Tryz.prog 39 Tryz.f39 C_containsS [.t 4] := fc_mk [aN [0,1] [] [],aN [4] [] []] Tryz.func39 (by kernel_rfl)
def C_indexS : AC := (.seq (.reg false [gI 4 (.mv (oI 0))] (kP [0,1] [] []))
 (.seq (.seq (.reg false [gM 6 0,gI 7 (.len (.t 6)),gI 8 (.mv (oI 0))] (kP [0,1,7,8] [] []))
 (.block 0 (.loop (.seq (.reg false [gI 9 (.bin .lss (.t 8) (.t 7))] (kP [0,1,7,8,9] [] []))
 (.seq (.cond (.t 9)
 .skip
 (.exit 0))
 (.seq (.block 1 (.seq (.reg false [gM 10 8,gM 5 10] (kP [0,1,5,7,8] [] []))
 (.seq (.reg false [gM 11 1,gM 12 0,gM 13 5,gI 14 (.iadr 1 (.t 12) (.t 13)),gI 15 (.load false 1 (.t 14)),gI 16 (.bin .eql (.t 11) (.t 15))] (kP [0,1,5,7,8,16] [] []))
 (.cond (.t 16)
 (.seq (.reg false [gM 17 5,gM 4 17] (kP [4] [] []))
 .ret)
 .skip))))
 (.reg false [gI 18 (.bin .add (.t 8) (oI 1)),gM 8 18] (kP [0,1,7,8] [] []))))))))
 (.seq (.reg false [gI 4 (.mv (oI (-1)))] (kP [4] [] []))
 .ret)))
theorem fc_indexS : FcT Tryz.prog 89 Tryz.f89 C_indexS [.t 4] := fc_mk [aN [0,1] [] [],aN [0,1,7,8] [] [],aN [0,1,7,8,9] [] [],aN [0,1,5,7,8] [] [],aN [0,1,5,7,8,16] [] [],aN [4] [] [],aN [0,1,7,8] [] [],aN [4] [] []] Tryz.func89 (by kernel_rfl)
theorem spl_len (c : UInt8) : ∀ l : List UInt8, (spl c l).length ≤ l.length + 1
 | [] => by simp [spl]
 | b :: l => by
  have := spl_len c l
  rw [spl]
  split
  ·simp; omega
  ·split
   ·simp
   ·rename_i x r hs
    rw [hs] at this
    simp at this ⊢; omega
theorem spl_mem (c : UInt8) : ∀ (l : List UInt8) (x : List UInt8), x ∈ spl c l → x.length ≤ l.length
 | [], x, h => by simp [spl] at h; simp [h]
 | b :: l, x, h => by
  have ih := spl_mem c l
  rw [spl] at h
  split at h
  ·rcases List.mem_cons.1 h with rfl | h
   ·simp
   ·have := ih x h; simp; omega
  ·split at h
   ·simp at h; simp [h]
   ·rename_i y r hs
    rcases List.mem_cons.1 h with rfl | h
    ·have := ih y (by rw [hs]; simp)
     simp; omega
    ·have := ih x (by rw [hs]; simp [h])
     simp; omega
attribute [go_sem] strC_eq
theorem zl1 : ((0 : Nat) < 1) = True := by simp
attribute [go_sem] zl1
theorem indexS_fc (w : List ByteArray) (hl : w.length ≤ 1000) : FC Tryz.prog 89 none [strs false w, sv emp] (fun _ r => r = iv (idxG (fun s => decide (s = emp)) 0 w)) := by
 refine fc_indexS (by simp +arith) ?_
 unfold C_indexS
 simp (maxSteps := 1000000) (disch := (first | omega | assumption)) only [go_sem]
 refine ex_loop1 (fun i => ⟨tabV [(0, strs false w), (1, sv emp), (7, iv w.length), (8, iv i)], tabO [], tabO []⟩) (fun i => 0 ≤ i ∧ i ≤ w.length ∧ idxG (fun s => decide (s = emp)) i (w.drop i.toNat) = idxG (fun s => decide (s = emp)) 0 w) (fun i => (w.length - i).toNat) 0 ⟨by omega, by omega, rfl⟩ rfl ?_
 rintro i ⟨g1, g2, g3⟩
 by_cases hi : i < w.length
 ·have e2 : (i + 1).toNat = i.toNat + 1 := by omega
  have em := getD_str w i g1 hi
  rw [drop_cons w i.toNat (by omega), idxG, ← e2] at g3
  by_cases c1 : w.getD i.toNat default = emp
  ·rw [if_pos (decide_eq_true c1)] at g3
   rw [← g3]
   have c2 : emp = w.getD i.toNat default := c1.symm
   simp (maxSteps := 1000000) (disch := (first | omega | assumption)) only [go_sem]
  ·rw [if_neg (by simpa using c1)] at g3
   have c2 : ¬emp = w.getD i.toNat default := fun h => c1 h.symm
   simp (maxSteps := 1000000) (disch := (first | omega | assumption)) only [go_sem]
   exact ⟨i + 1, rfl, ⟨by omega, by omega, g3⟩, by omega⟩
 ·rw [List.drop_eq_nil_of_le (by omega), idxG] at g3
  rw [← g3]
  simp (maxSteps := 1000000) (disch := (first | omega | assumption)) only [go_sem]
theorem containsS_fc (w : List ByteArray) (hl : w.length ≤ 1000) (hw : ∀ s ∈ w, s ≠ emp) : FC Tryz.prog 39 none [strs false w, sv emp] (fun _ r => r = bv false) := by
 refine fc_containsS (by simp +arith) ?_
 have hc := indexS_fc w hl
 have e : idxG (fun s => decide (s = emp)) 0 w = -1 := idxG_no _ _ _ fun j hj => decide_eq_false (hw _ (getD_memB w j hj))
 rw [e] at hc
 unfold C_containsS
 simp (maxSteps := 1000000) (disch := (first | omega | assumption)) only [go_sem]
 refine CALL_det hc (.inl rfl) ?_
 simp (maxSteps := 1000000) (disch := (first | omega | assumption)) only [go_sem]
 rfl
theorem lines_fc (t : ByteArray) (ht : t.size ≤ 1000000) : FC Tryz.prog 102 none [sv t] (fun _ r => r = .tu [strs true (linesA t.data.toList).1, bv (linesA t.data.toList).2]) := by
 refine fc_lines (by simp +arith) ?_
 have hc := cutS_fc t ⟨#[10]⟩ 10 rfl ht
 unfold linesA
 by_cases c1 : t = emp
 ·rw [if_pos (by rw [c1])]
  unfold C_lines
  simp (maxSteps := 1000000) (disch := (first | omega | assumption)) only [go_sem]
  rfl
 ·rw [if_neg (fun h => c1 (ba_ext h))]
  have hsz : (inS t 10).size ≤ 1000000 := by
   unfold inS
   split
   ·rw [bS_size, List.length_dropLast, ← szL]; omega
   ·exact ht
  have hc2 := split_fc (inS t 10) 10 (by omega)
  rw [splL_eq] at hc2
  have hr : (if t.data.toList.getLast? = some 10 then ((spl 10 t.data.toList.dropLast).map bS, true) else ((spl 10 t.data.toList).map bS, false)) = ((spl 10 (inS t 10).data.toList).map bS, ltIs t 10) := by
   unfold inS ltIs
   by_cases h : t.data.toList.getLast? = some 10
   ·rw [if_pos h, if_pos (decide_eq_true h), decide_eq_true h]; rfl
   ·rw [if_neg h, if_neg (by simpa using h), decide_eq_false h]
  rw [hr]
  generalize inS t 10 = b at *
  generalize ltIs t 10 = e at *
  unfold C_lines
  simp (maxSteps := 1000000) (disch := (first | omega | assumption)) only [go_sem]
  refine CALL_det hc (.inl rfl) ?_
  simp (maxSteps := 1000000) (disch := (first | omega | assumption)) only [go_sem]
  refine CALL_det hc2 (.inl rfl) ?_
  simp (maxSteps := 1000000) (disch := (first | omega | assumption)) only [go_sem]
end Go.Proofs.YtodmofhehabmgaaGreatDoor

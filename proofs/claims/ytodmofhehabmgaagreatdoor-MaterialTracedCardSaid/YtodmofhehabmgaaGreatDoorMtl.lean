/-
 Recall and Text for any arguments; lists that are equal; that the batches' package does something.
-/
import Derived.Test.YtodmofhehabmgaaGreatDoorRcl
import Derived.Test.YtodmofhehabmgaaGreatDoorMnd
import Derived.Test.YtodmofhehabmgaaGreatDoorRtr
import Derived.Test.YtodmofhehabmgaaGreatDoorFrm
namespace Go.Proofs.YtodmofhehabmgaaGreatDoor
open Go Go.Ai
set_option linter.unusedSimpArgs false
set_option linter.unusedVariables false
set_option maxHeartbeats 4000000
def C_eqStr : AC := (.seq (.reg false [gI 4 (.mv (.v (.bool false)))] (kP [0,1] [] []))
 (.seq (.seq (.reg false [gM 6 0,gI 7 (.len (.t 6)),gM 8 1,gI 9 (.len (.t 8)),gI 10 (.bin .neq (.t 7) (.t 9))] (kP [0,1,10] [] []))
 (.cond (.t 10)
 (.seq (.reg false [gI 4 (.mv (.v (.bool false)))] (kP [4] [] []))
 .ret)
 .skip))
 (.seq (.seq (.reg false [gM 11 0,gI 12 (.len (.t 11)),gI 13 (.mv (oI 0))] (kP [0,1,12,13] [] []))
 (.block 0 (.loop (.seq (.reg false [gI 14 (.bin .lss (.t 13) (.t 12))] (kP [0,1,12,13,14] [] []))
 (.seq (.cond (.t 14)
 .skip
 (.exit 0))
 (.seq (.block 1 (.seq (.reg false [gM 15 13,gM 5 15] (kP [0,1,5,12,13] [] []))
 (.seq (.reg true [gM 16 0,gM 17 5,gI 18 (.iadr 1 (.t 16) (.t 17)),gI 19 (.load false 1 (.t 18)),gM 20 1,gM 21 5,gI 22 (.iadr 1 (.t 20) (.t 21)),gI 23 (.load false 1 (.t 22)),gI 24 (.bin .neq (.t 19) (.t 23))] (kP [0,1,12,13,24] [] []))
 (.cond (.t 24)
 (.seq (.reg false [gI 4 (.mv (.v (.bool false)))] (kP [4] [] []))
 .ret)
 .skip))))
 (.reg false [gI 25 (.bin .add (.t 13) (oI 1)),gM 13 25] (kP [0,1,12,13] [] []))))))))
 (.seq (.reg false [gI 4 (.mv (.v (.bool true)))] (kP [4] [] []))
 .ret))))
theorem fc_eqStr : FcT Tryz.prog 22 Tryz.f22 C_eqStr [.t 4] := fc_mk [aN [0,1] [] [],aN [0,1,10] [] [],aN [4] [] [],aN [0,1,12,13] [] [],aN [0,1,12,13,14] [] [],aN [0,1,5,12,13] [] [],aN [0,1,12,13,24] [] [],aN [4] [] [],aN [0,1,12,13] [] [],aN [4] [] []] Tryz.func22 (by kernel_rfl)
def C_eqTrf : AC := (.seq (.reg false [gI 4 (.mv (.v (.bool false)))] (kP [0,1] [] []))
 (.seq (.seq (.reg false [gM 6 0,gI 7 (.len (.t 6)),gM 8 1,gI 9 (.len (.t 8)),gI 10 (.bin .neq (.t 7) (.t 9))] (kP [0,1,10] [] []))
 (.cond (.t 10)
 (.seq (.reg false [gI 4 (.mv (.v (.bool false)))] (kP [4] [] []))
 .ret)
 .skip))
 (.seq (.seq (.reg false [gM 11 0,gI 12 (.len (.t 11)),gI 13 (.mv (oI 0))] (kP [0,1,12,13] [] []))
 (.block 0 (.loop (.seq (.reg false [gI 14 (.bin .lss (.t 13) (.t 12))] (kP [0,1,12,13,14] [] []))
 (.seq (.cond (.t 14)
 .skip
 (.exit 0))
 (.seq (.block 1 (.seq (.reg false [gM 15 13,gM 5 15] (kP [0,1,5,12,13] [] []))
 (.seq (.reg true [gM 16 0,gM 17 5,gI 18 (.iadr 3 (.t 16) (.t 17)),gI 19 (.load true 3 (.t 18)),gM 20 1,gM 21 5,gI 22 (.iadr 3 (.t 20) (.t 21)),gI 23 (.load true 3 (.t 22)),gI 24 (.eqs true true [.s,.s,.i .i64] (.t 19) (.t 23))] (kP [0,1,12,13,24] [] []))
 (.cond (.t 24)
 (.seq (.reg false [gI 4 (.mv (.v (.bool false)))] (kP [4] [] []))
 .ret)
 .skip))))
 (.reg false [gI 25 (.bin .add (.t 13) (oI 1)),gM 13 25] (kP [0,1,12,13] [] []))))))))
 (.seq (.reg false [gI 4 (.mv (.v (.bool true)))] (kP [4] [] []))
 .ret))))
theorem fc_eqTrf : FcT Tryz.prog 28 Tryz.f28 C_eqTrf [.t 4] := fc_mk [aN [0,1] [] [],aN [0,1,10] [] [],aN [4] [] [],aN [0,1,12,13] [] [],aN [0,1,12,13,14] [] [],aN [0,1,5,12,13] [] [],aN [0,1,12,13,24] [] [],aN [4] [] [],aN [0,1,12,13] [] [],aN [4] [] []] Tryz.func28 (by kernel_rfl)
def C_eqWn : AC := (.seq (.reg false [gI 4 (.mv (.v (.bool false)))] (kP [0,1] [] []))
 (.seq (.seq (.reg false [gM 6 0,gI 7 (.len (.t 6)),gM 8 1,gI 9 (.len (.t 8)),gI 10 (.bin .neq (.t 7) (.t 9))] (kP [0,1,10] [] []))
 (.cond (.t 10)
 (.seq (.reg false [gI 4 (.mv (.v (.bool false)))] (kP [4] [] []))
 .ret)
 .skip))
 (.seq (.seq (.reg false [gM 11 0,gI 12 (.len (.t 11)),gI 13 (.mv (oI 0))] (kP [0,1,12,13] [] []))
 (.block 0 (.loop (.seq (.reg false [gI 14 (.bin .lss (.t 13) (.t 12))] (kP [0,1,12,13,14] [] []))
 (.seq (.cond (.t 14)
 .skip
 (.exit 0))
 (.seq (.block 1 (.seq (.reg false [gM 15 13,gM 5 15] (kP [0,1,5,12,13] [] []))
 (.seq (.reg true [gM 16 0,gM 17 5,gI 18 (.iadr 2 (.t 16) (.t 17)),gI 19 (.load true 2 (.t 18)),gM 20 1,gM 21 5,gI 22 (.iadr 2 (.t 20) (.t 21)),gI 23 (.load true 2 (.t 22)),gI 24 (.eqs true true [.i .i64,.i .i64] (.t 19) (.t 23))] (kP [0,1,12,13,24] [] []))
 (.cond (.t 24)
 (.seq (.reg false [gI 4 (.mv (.v (.bool false)))] (kP [4] [] []))
 .ret)
 .skip))))
 (.reg false [gI 25 (.bin .add (.t 13) (oI 1)),gM 13 25] (kP [0,1,12,13] [] []))))))))
 (.seq (.reg false [gI 4 (.mv (.v (.bool true)))] (kP [4] [] []))
 .ret))))
theorem fc_eqWn : FcT Tryz.prog 79 Tryz.f79 C_eqWn [.t 4] := fc_mk [aN [0,1] [] [],aN [0,1,10] [] [],aN [4] [] [],aN [0,1,12,13] [] [],aN [0,1,12,13,14] [] [],aN [0,1,5,12,13] [] [],aN [0,1,12,13,24] [] [],aN [4] [] [],aN [0,1,12,13] [] [],aN [4] [] []] Tryz.func79 (by kernel_rfl)
def C_batched : AC := (.seq (.reg false [gI 0 (.mv (.v (.bool false)))] (kP [] [] []))
 (.seq (.reg false [gI 4 (.build [(.int .i64 (0)),(.int .i64 (0)),(.int .i64 (0)),(.int .i64 (0))] [(0,1,(oI 5)),(1,1,(oI 5))]),gI 5 (.build [(.int .i64 (0)),(.int .i64 (0)),(.int .i64 (0))] [(0,1,(oI 3)),(1,1,(oI 6))]),gI 6 (.bslice 3 1 [(.t 5)]),gI 7 (.call (.f 78) [(.t 4),(.t 6),(oI 9)]),gM 3 7,gI 8 (.extr (.t 3) 0),gI 9 (.extr (.t 3) 1),gM 1 8,gM 2 9] (kP [1,2] [] []))
 (.seq (.reg false [gM 10 2,gI 11 (.bin .eql (.t 10) (oI 0)),gM 12 11,gG 13 12 true (.mv (.t 1)),gG 14 12 true (.build [(.int .i64 (0)),(.int .i64 (0))] [(0,1,(oI 3)),(1,1,(oI 9))]),gG 15 12 true (.bslice 2 1 [(.t 14)]),gG 16 12 true (.call (.f 79) [(.t 13),(.t 15)]),gI 17 (.pick (.t 12) (.t 16) (.v (.bool false))),gM 0 17] (kP [0] [] []))
 .ret)))
theorem fc_batched : FcT Tryz.prog 29 Tryz.f29 C_batched [.t 0] := fc_mk [aN [] [] [],aN [1,2] [] [],aN [0] [] []] Tryz.func29 (by kernel_rfl)
/-- What is wrong with transfers, a batch and a least share. -/
def thE (l : List Trf) (y : ByteArray) (n d : Int) : Int := if fE l y ≠ 0 then fE l y else lsF n d
def rcAL (l : List Trf) (y : ByteArray) (n d : Int) : List ByteArray := if thE l y n d = 0 then rcL l y n d (srtS (prdL l y)) else []
def rcAE (l : List Trf) (y : ByteArray) (n d : Int) : Int := if thE l y n d = 0 then rcE l (srtS (prdL l y)) else thE l y n d
theorem thE_zero {l : List Trf} {y : ByteArray} {n d : Int} (h : thE l y n d = 0) : fE l y = 0 ∧ lsF n d = 0 := by
 unfold thE at h
 by_cases c : fE l y ≠ 0
 ·rw [if_pos c] at h; exact absurd h c
 ·rw [if_neg c] at h; exact ⟨by omega, h⟩
theorem rclA_fc {l : List Trf} (hl : SmT l) (hl13 : l.length ≤ 13) (y : ByteArray) (hy : y.size ≤ 1000000) (n d : Int) (hn : I64 n) (hd : I64 d) :
  FC Tryz.prog 14 none [trs false l, sv y, .ag [.g (.int .i64 n), .g (.int .i64 d)]] (fun _ r => r = .tu [strs true (rcAL l y n d), iv (rcAE l y n d)]) := by
 unfold rcAL rcAE
 by_cases h : thE l y n d = 0
 ·have hz := thE_zero h
  rw [if_pos h, if_pos h]
  exact rcl_ok hl y hy n d hz.1 hz.2 (by have := prdL_len l y; omega)
 ·rw [if_neg h, if_neg h]
  have hf := tfaultA_fc hl y hy
  have hd2 : -9223372036854775808 ≤ d ∧ d ≤ 9223372036854775807 := hd
  refine fc_rcl (by simp +arith) ?_
  unfold C_rcl
  unfold thE at h ⊢
  by_cases c : fE l y = 0
  ·rw [if_neg (show ¬(fE l y ≠ 0) by omega)] at h ⊢
   rw [c] at hf
   unfold lsF at h ⊢
   by_cases c1 : d < 1
   ·rw [if_pos c1] at h ⊢
    simp (maxSteps := 1000000) (disch := (first | omega | assumption)) only [go_sem]
    refine CALL_det hf (.inl rfl) ?_
    simp (maxSteps := 1000000) (disch := (first | omega | assumption)) only [go_sem]
    rfl
   ·rw [if_neg c1] at h ⊢
    have hw := lowestB_fc n d hn (by omega)
    cases hw2 : lwSp n d with
    | false =>
     rw [hw2] at hw
     rw [if_pos rfl]
     simp (maxSteps := 1000000) (disch := (first | omega | assumption)) only [go_sem]
     refine CALL_det hf (.inl rfl) ?_
     simp (maxSteps := 1000000) (disch := (first | omega | assumption)) only [go_sem]
     refine CALL_det hw (.inl rfl) ?_
     simp (maxSteps := 1000000) (disch := (first | omega | assumption)) only [go_sem]
     rfl
    | true =>
     rw [hw2] at hw h
     rw [if_neg (by simp)] at h ⊢
     have ho := out_fc n 0 d
     by_cases c2 : n < 0 ∨ d < n
     ·rw [if_pos (by omega)] at h ⊢
      rw [decide_eq_true (show n < 0 ∨ n > d by omega)] at ho
      simp (maxSteps := 1000000) (disch := (first | omega | assumption)) only [go_sem]
      refine CALL_det hf (.inl rfl) ?_
      simp (maxSteps := 1000000) (disch := (first | omega | assumption)) only [go_sem]
      refine CALL_det hw (.inl rfl) ?_
      simp (maxSteps := 1000000) (disch := (first | omega | assumption)) only [go_sem]
      refine CALL_det ho (.inl rfl) ?_
      simp (maxSteps := 1000000) (disch := (first | omega | assumption)) only [go_sem]
      rfl
     ·by_cases c3 : 1000000 < d
      ·rw [if_pos (by omega)] at h ⊢
       rw [decide_eq_false (show ¬(n < 0 ∨ n > d) by omega)] at ho
       simp (maxSteps := 1000000) (disch := (first | omega | assumption)) only [go_sem]
       refine CALL_det hf (.inl rfl) ?_
       simp (maxSteps := 1000000) (disch := (first | omega | assumption)) only [go_sem]
       refine CALL_det hw (.inl rfl) ?_
       simp (maxSteps := 1000000) (disch := (first | omega | assumption)) only [go_sem]
       refine CALL_det ho (.inl rfl) ?_
       simp (maxSteps := 1000000) (disch := (first | omega | assumption)) only [go_sem]
       rfl
      ·rw [if_neg (by omega)] at h
       exact absurd rfl h
  ·rw [if_pos c] at h ⊢
   generalize fE l y = e at *
   simp (maxSteps := 1000000) (disch := (first | omega | assumption)) only [go_sem]
   refine CALL_det hf (.inl rfl) ?_
   simp (maxSteps := 1000000) (disch := (first | omega | assumption)) only [go_sem]
   rfl
theorem textA_fc {l : List Trf} (hl : SmT l) : FC Tryz.prog 23 none [trs false l] (fun _ r => r = .tu [sv (if ctF l = 0 then bS (textT l) else emp), iv (ctF l)]) := by
 by_cases h : ctF l = 0
 ·rw [if_pos h, h]
  exact text_fc l h
 ·rw [if_neg h]
  have hlen := hl.len
  have hc := ckT_fc l (by omega) hl.siz
  refine fc_text (by simp +arith) ?_
  unfold C_text
  generalize ctF l = e at *
  simp (maxSteps := 1000000) (disch := (first | omega | assumption)) only [go_sem]
  refine CALL_det hc (.inl rfl) ?_
  simp (maxSteps := 1000000) (disch := (first | omega | assumption)) only [go_sem]
/-! ### equal lists -/
theorem eqTrf_fc (l : List Trf) (hl : l.length ≤ 1000000) : FC Tryz.prog 28 none [trs false l, trs false l] (fun _ r => r = bv true) := by
 refine fc_eqTrf (by simp +arith) ?_
 unfold C_eqTrf
 simp (maxSteps := 1000000) (disch := omega) only [go_sem]
 refine ex_loop1 (fun i => ⟨tabV [(0, trs false l), (1, trs false l), (12, iv l.length), (13, iv i)], tabO [], tabO []⟩) (fun i => 0 ≤ i ∧ i ≤ l.length) (fun i => (l.length - i).toNat) 0 ⟨by omega, by omega⟩ rfl ?_
 rintro i ⟨g1, g2⟩
 by_cases hi : i < l.length
 ·simp (maxSteps := 1000000) (disch := omega) only [go_sem]
  exact ⟨_, rfl, ⟨by omega, by omega⟩, by omega⟩
 ·simp (maxSteps := 1000000) (disch := omega) only [go_sem]
theorem eqStr_fc (l : List ByteArray) (hl : l.length ≤ 1000000) : FC Tryz.prog 22 none [strs false l, strs false l] (fun _ r => r = bv true) := by
 refine fc_eqStr (by simp +arith) ?_
 unfold C_eqStr
 simp (maxSteps := 1000000) (disch := omega) only [go_sem]
 refine ex_loop1 (fun i => ⟨tabV [(0, strs false l), (1, strs false l), (12, iv l.length), (13, iv i)], tabO [], tabO []⟩) (fun i => 0 ≤ i ∧ i ≤ l.length) (fun i => (l.length - i).toNat) 0 ⟨by omega, by omega⟩ rfl ?_
 rintro i ⟨g1, g2⟩
 by_cases hi : i < l.length
 ·have em := getD_str l i g1 hi
  simp (maxSteps := 1000000) (disch := omega) only [go_sem]
  exact ⟨_, rfl, ⟨by omega, by omega⟩, by omega⟩
 ·simp (maxSteps := 1000000) (disch := omega) only [go_sem]
theorem gB0 (x : List Cel) : [x].getD 0 [] = x := rfl
attribute [local go_sem] gB0
theorem eqWn_fc : FC Tryz.prog 79 none [frsV false [(3, 9)], frsV false [(3, 9)]] (fun _ r => r = bv true) := by
 refine fc_eqWn (by simp +arith) ?_
 unfold C_eqWn
 simp (maxSteps := 1000000) (disch := omega) only [go_sem]
 refine ex_rnd 3 ?_
 simp (maxSteps := 1000000) (disch := omega) only [go_sem]
theorem batched_fc : FC Tryz.prog 29 none [] (fun _ r => r = bv true) := by
 refine fc_batched (by simp +arith) ?_
 have hc := frames_fc [⟨3, 6, 0⟩] (by simp) 5 5 0 0 9
 have e : frmSp [⟨3, 6, 0⟩] 5 5 0 0 9 = ([(3, 9)], 0) := by kernel_rfl
 rw [e] at hc
 unfold C_batched
 simp (maxSteps := 1000000) (disch := omega) only [go_sem]
 refine CALL_det hc (.inl rfl) ?_
 simp (maxSteps := 1000000) (disch := omega) only [go_sem]
 refine CALL_det eqWn_fc (.inl rfl) ?_
 simp (maxSteps := 1000000) (disch := omega) only [go_sem]
/-! ### errors, the first that is one -/
theorem or_two (a b : Int) : orSp [a, b] = if a ≠ 0 then a else b := by
 simp only [orSp]
 split
 ·rfl
 ·split <;> omega
theorem or_three (a b c : Int) : orSp [a, b, c] = if a ≠ 0 then a else if b ≠ 0 then b else c := by
 simp only [orSp]
 split
 ·rfl
 ·split
  ·rfl
  ·split <;> omega
def kF (k : ByteArray) : Int := if keyOk k = true then 0 else 5
theorem or_fE (l : List Trf) (x : ByteArray) : orSp [ctF l, kF x] = fE l x := or_two _ _
theorem or_twE (l : List Trf) (x y : ByteArray) : orSp [fE l x, kF y] = twE l x y := or_two _ _
theorem or_thE (l : List Trf) (y : ByteArray) (n d : Int) : orSp [ctF l, kF y, lsF n d] = thE l y n d := by
 rw [or_three]
 unfold thE fE kF
 by_cases c : ctF l ≠ 0
 ·rw [if_pos c, if_pos c, if_pos c]
 ·rw [if_neg c, if_neg c]
theorem ttF_len (s : ByteArray) : (ttF s.data.toList).1.length ≤ 1000000 := by
 unfold ttF
 by_cases c : s.data.toList.length > 200000
 ·rw [if_pos c]; simp
 ·rw [if_neg c]
  have h0 := szL s
  have h1 := linesT_len s
  have h2 := (eachT_size (linesA s.data.toList).2 s.size (linesA s.data.toList).1 0 [] (linesT_size s) (fun x hx => by cases hx)).2
  have h3 : (ttT s.data.toList).1.length ≤ 1000000 := by unfold ttT; simp only [List.length_nil] at h2; omega
  split
  ·simp
  ·split
   ·simp
   ·exact h3
end Go.Proofs.YtodmofhehabmgaaGreatDoor

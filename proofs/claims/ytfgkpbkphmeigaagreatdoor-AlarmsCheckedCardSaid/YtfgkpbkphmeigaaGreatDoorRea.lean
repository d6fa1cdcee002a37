/-
 Alarms, read: line after line.
-/
import Derived.Test.YtfgkpbkphmeigaaGreatDoorRdl
import Derived.Test.YtfgkpbkphmeigaaGreatDoorCka
namespace Go.Proofs.YtfgkpbkphmeigaaGreatDoor
open Go Go.Ai
set_option linter.unusedSimpArgs false
set_option linter.unusedVariables false
set_option maxHeartbeats 4000000
def C_readC : AC := (.seq (.reg false [gI 3 (.mv (.v (.bool false)))] (kP [0,1,1000001] [1000001] [1000002]))
 (.seq (.reg false [gM 7 0,gI 8 (.call (.f 106) [(.t 7)]),gM 6 8,gI 9 (.extr (.t 6) 0),gI 10 (.extr (.t 6) 1),gI 4 (.alloc [(.string (ByteArray.mk #[])),(.string (ByteArray.mk #[])),(.int .i64 (0)),(.int .i64 (0)),(.int .i64 (0)),(.int .i64 (0)),(.int .i64 (0)),(.int .i64 (0)),(.bool false),(.string (ByteArray.mk #[]))]),gN (.store 10 (.t 4) (.t 9)),gM 5 10] (kP [1,4,5,1000001] [4,1000001] [1000002]))
 (.seq (.reg false [gI 11 (.load false 1 (.t 1)),gI 12 (.load true 10 (.t 4)),gI 13 (.bslice 10 1 [(.t 12)]),gI 14 (.append 54 10 104 (.t 11) (.t 13)),gN (.store 1 (.t 1) (.t 14))] (kP [5] [1000001] [1000002]))
 (.seq (.reg false [gM 15 5,gM 3 15] (kP [3] [1000001] [1000002]))
 .ret))))
theorem fcm_readC : FmT Tryz.prog 105 Tryz.f105 C_readC [.t 3] := fcm_mk [aN [0,1,1000001] [1000001] [1000002],aN [1,4,5,1000001] [4,1000001] [1000002],aN [5] [1000001] [1000002],aN [3] [1000001] [1000002]] Tryz.func105 (by kernel_rfl)
def C_each : AC := (.seq (.reg false [gI 4 (.mv (oI 0)),gI 5 (.mv (.v (.bool false)))] (kP [0,1,1000001] [1000001] [1000002]))
 (.seq (.reg false [gM 11 0,gI 12 (.call (.f 192) [(.t 11)]),gM 10 12,gI 13 (.extr (.t 10) 0),gI 14 (.extr (.t 10) 1),gM 6 13,gM 7 14] (kP [1,6,7,1000001] [1000001] [1000002]))
 (.seq (.seq (.reg false [gM 15 6,gI 16 (.len (.t 15)),gI 17 (.mv (oI 0))] (kP [1,6,7,15,16,17,1000001] [1000001] [1000002]))
 (.block 0 (.loop (.seq (.reg false [gI 18 (.bin .lss (.t 17) (.t 16))] (kP [1,6,7,15,16,17,18,1000001] [1000001] [1000002]))
 (.seq (.cond (.t 18)
 .skip
 (.exit 0))
 (.seq (.block 1 (.seq (.reg false [gM 19 17,gI 20 (.iadr 1 (.t 15) (.t 17)),gI 21 (.load false 1 (.t 20)),gM 8 19,gM 9 21] (kP [1,6,7,8,9,15,16,17,1000001] [1000001] [1000002]))
 (.seq (.reg false [gM 22 7,gI 23 (.un .not (.t 22)),gM 24 23,gG 25 24 true (.mv (.t 8)),gG 26 24 true (.mv (.t 6)),gG 27 24 true (.len (.t 26)),gG 28 24 true (.bin .sub (.t 27) (oI 1)),gG 29 24 true (.bin .eql (.t 25) (.t 28)),gI 30 (.pick (.t 24) (.t 29) (.v (.bool false))),gM 31 30,gG 32 31 false (.mv (.t 1)),gG 33 31 false (.mv (.t 9)),gG 34 31 false (.callm (.t 32) [(.t 33)] ⟨[1000001],[1000002],[1000001],[1000002],[]⟩),gG 35 31 false (.un .not (.t 34)),gI 36 (.pick (.t 31) (.v (.bool true)) (.t 35))] (kP [1,6,7,8,15,16,17,36,1000001] [1000001] [1000002]))
 (.cond (.t 36)
 (.seq (.reg false [gM 37 8,gM 4 37,gI 5 (.mv (.v (.bool false)))] (kP [4,5] [1000001] [1000002]))
 .ret)
 .skip))))
 (.reg false [gI 38 (.bin .add (.t 17) (oI 1)),gM 17 38] (kP [1,6,7,15,16,17,1000001] [1000001] [1000002]))))))))
 (.seq (.reg false [gI 4 (.mv (oI 0)),gI 5 (.mv (.v (.bool true)))] (kP [4,5] [1000001] [1000002]))
 .ret))))
theorem fcm_each : FmT Tryz.prog 104 Tryz.f104 C_each [.t 4, .t 5] := fcm_mk [aN [0,1,1000001] [1000001] [1000002],aN [1,6,7,1000001] [1000001] [1000002],aN [1,6,7,15,16,17,1000001] [1000001] [1000002],aN [1,6,7,15,16,17,18,1000001] [1000001] [1000002],aN [1,6,7,8,9,15,16,17,1000001] [1000001] [1000002],⟨(kP [1,6,7,8,15,16,17,36,1000001] [1000001] [1000002]),[],[],[],[(34,⟨[1000001],[1000002],[1000001],[1000002],[]⟩)]⟩,aN [4,5] [1000001] [1000002],aN [1,6,7,15,16,17,1000001] [1000001] [1000002],aN [4,5] [1000001] [1000002]] Tryz.func104 (by kernel_rfl)
def C_read : AC := (.seq (.reg false [gI 2 (.mv (.v (.slice none 0 0))),gI 3 (.mv (oI 0)),gI 4 (.mv (oI 0))] (kP [0,5] [5] []))
 (.seq (.seq (.reg false [gM 9 0,gI 10 (.slen (.t 9)),gI 11 (.bin .gtr (.t 10) (oI 200000))] (kP [0,5,11] [5] []))
 (.cond (.t 11)
 (.seq (.seq (.reg false [gI 2 (.mv (.v (.slice none 0 0))),gI 3 (.mv (oI 0)),gI 4 (.mv (oI 2))] (kP [2,3,4,5] [5] []))
 (.ty 2 10))
 .ret)
 .skip))
 (.seq (.seq (.reg false [gI 5 (.alloc [(.slice none 0 0)])] (kP [0,5] [5] []))
 (.ownb 5 0 5 54 10))
 (.seq (.reg false [gM 13 0,gI 14 (.mkfn 105 [(.t 5)]),gI 15 (.callm (.f 104) [(.t 13),(.t 14)] ⟨[5],[5],[5],[5],[]⟩),gM 12 15,gI 16 (.extr (.t 12) 0),gI 17 (.extr (.t 12) 1),gM 6 16,gM 7 17] (kP [5,6,7] [5] []))
 (.seq (.seq (.reg false [gM 18 7,gI 19 (.un .not (.t 18))] (kP [5,6,19] [5] []))
 (.cond (.t 19)
 (.seq (.seq (.reg false [gM 20 6,gI 2 (.mv (.v (.slice none 0 0))),gM 3 20,gI 4 (.mv (oI 9))] (kP [2,3,4,5] [5] []))
 (.ty 2 10))
 .ret)
 .skip))
 (.seq (.seq (.reg false [gI 21 (.load false 1 (.t 5)),gI 22 (.call (.f 14) [(.t 21)]),gM 8 22] (kP [5,8] [5] []))
 (.seq (.reg false [gM 23 8,gI 24 (.bin .neq (.t 23) (oI 0))] (kP [5,8,24] [5] []))
 (.cond (.t 24)
 (.seq (.seq (.reg false [gM 25 8,gI 2 (.mv (.v (.slice none 0 0))),gI 3 (.mv (oI 0)),gM 4 25] (kP [2,3,4,5] [5] []))
 (.ty 2 10))
 .ret)
 .skip)))
 (.seq (.reg false [gI 26 (.load false 1 (.t 5)),gM 2 26,gI 3 (.mv (oI 0)),gI 4 (.mv (oI 0))] (kP [2,3,4,5] [5] []))
 .ret)))))))
theorem fc_read : FcT Tryz.prog 25 Tryz.f25 C_read [.t 2, .t 3, .t 4] := fc_mk [aN [0,5] [5] [],aN [0,5,11] [5] [],⟨(kP [2,3,4,5] [5] []),[],[],[(2,10)],[]⟩,⟨(kP [0,5] [5] []),[(1000005,54,10)],[],[],[]⟩,⟨(kP [5,6,7] [5] []),[],[],[],[(15,⟨[5],[5],[5],[5],[]⟩)]⟩,aN [5,6,19] [5] [],⟨(kP [2,3,4,5] [5] []),[],[],[(2,10)],[]⟩,aN [5,8] [5] [],aN [5,8,24] [5] [],⟨(kP [2,3,4,5] [5] []),[],[],[(2,10)],[]⟩,aN [2,3,4,5] [5] []] Tryz.func25 (by kernel_rfl)
abbrev reRow (l : List Alm) : Row := ⟨0, 54, 10, l.map almS⟩
abbrev reH (l : List Alm) : Hp := ⟨[(1000001, [.ow 1000002 0])], [(1000002, reRow l)]⟩
theorem datE_alm2 (l : List Alm) : datE (l.map almS) = l.map almS := datE_map (fun _ => rfl) l
attribute [go_sem] datE_alm2
theorem readC_fcm (s : ByteArray) (hs : s.size ≤ 1000000) (o : List Alm) (ho : o.length ≤ 1000000) : FCM Tryz.prog 105 (reH o) [sv s, .one (.bx 1000001 0)] (fun H r => H = reH (o ++ [(rdL s).1]) ∧ r = bv (rdL s).2) := by
 refine fcm_readC (K := ⟨[], [1000001], [1000002]⟩) (by simp +arith) (by simp [XK]) (by simp [XK]) ?_
 have hc := readLine_fc s hs
 generalize rdL s = R at hc ⊢
 obtain ⟨x, b⟩ := R
 simp only at hc ⊢
 unfold C_readC
 simp (maxSteps := 1000000) (disch := omega) only [go_sem]
 refine CALL_det hc (.inl rfl) ?_
 simp (maxSteps := 1000000) (disch := omega) only [go_sem]
 simp [reH, almS_eq]
theorem kvE2 (v : Nat) (h : v ≤ 1) : kv 1000002 v = v := by
 unfold kv; rw [if_neg (by simp [XK])]; omega
theorem kvT2 (v : Nat) : kv 1000002 (v + 1) = 1 := by
 unfold kv; rw [if_neg (by simp [XK])]; omega
attribute [go_sem] kvE2 kvT2
def eaSt (ls : List ByteArray) (ends : Bool) (i : Int) (o : List Alm) (v : Nat) : AS := ⟨tabV [(1, .one (.fn 105 [.bx 1000001 0])), (6, strs true ls), (7, bv ends), (15, strs true ls), (16, iv ls.length), (17, iv i), (1000001, .any)], tabO [(1000001, [.ow 1000002 v])], tabO [(1000002, ⟨v, 54, 10, o.map almS⟩)]⟩
theorem linesA_size (t : ByteArray) : ∀ x ∈ (linesA t.data.toList).1, x.size ≤ t.size := by
 intro x hx
 rw [szL t]
 unfold linesA at hx
 split at hx
 ·simp at hx
 ·split at hx
  all_goals
   obtain ⟨y, hy, rfl⟩ := List.mem_map.1 hx
   have := spl_mem 10 _ y hy
   rw [bS_size]
   try rw [List.length_dropLast] at this
   omega
theorem linesA_len (t : ByteArray) : (linesA t.data.toList).1.length ≤ t.size + 1 := by
 rw [szL t]
 unfold linesA
 split
 ·simp
 ·split
  ·have := spl_len 10 t.data.toList.dropLast
   rw [List.length_dropLast] at this
   simp only [List.length_map]; omega
  ·have := spl_len 10 t.data.toList
   simp only [List.length_map]; omega
theorem each_fcm (t : ByteArray) (ht : t.size ≤ 200000) : FCM Tryz.prog 104 (reH []) [sv t, .one (.fn 105 [.bx 1000001 0])] (fun H r => H = reH (rdT t.data.toList).1 ∧ r = .tu [iv (rdT t.data.toList).2.1, bv (rdT t.data.toList).2.2]) := by
 refine fcm_each (K := ⟨[], [1000001], [1000002]⟩) (by simp +arith) (by simp [XK]) (by simp [XK]) ?_
 have hc := lines_fc t (by omega)
 have hsz : ∀ x ∈ (linesA t.data.toList).1, x.size ≤ 1000000 := fun x hx => by have := linesA_size t x hx; omega
 have hln : (linesA t.data.toList).1.length ≤ 200001 := by have := linesA_len t; omega
 unfold rdT
 generalize linesA t.data.toList = L at hc hsz hln ⊢
 obtain ⟨ls, ends⟩ := L
 simp only at hc hsz hln ⊢
 generalize hR : eachA ends ls 0 [] = R
 unfold C_each
 simp (maxSteps := 1000000) (disch := omega) only [go_sem]
 refine CALL_det hc (.inl rfl) ?_
 simp (maxSteps := 1000000) (disch := omega) only [go_sem]
 refine ex_loop3 (fun i o v => eaSt ls ends i o v) (fun i o v => 0 ≤ i ∧ i ≤ ls.length ∧ v ≤ 1 ∧ (o.length : Int) ≤ i ∧ eachA ends (ls.drop i.toNat) i o = R) (fun i _ _ => (ls.length - i).toNat) 0 [] 0 ⟨by omega, by omega, by omega, by simp, hR⟩ rfl ?_
 rintro i o v ⟨g1, g2, g3, g4, g5⟩
 unfold eaSt
 by_cases hi : i < ls.length
 ·have e2 : (i + 1).toNat = i.toNat + 1 := by omega
  have em := getD_str ls i g1 hi
  rw [drop_cons ls i.toNat (by omega), eachA, ← e2] at g5
  have hln2 : (ls.drop (i + 1).toNat).length = ls.length - (i + 1).toNat := List.length_drop
  have hcx := readC_fcm (ls.getD i.toNat default) (hsz _ (getD_memB ls i.toNat (by omega))) o (by omega)
  generalize hx : rdL (ls.getD i.toNat default) = X at *
  obtain ⟨x, b⟩ := X
  simp only at hcx g5
  cases ends with
  | true =>
   rw [if_neg (by simp)] at g5
   simp (maxSteps := 1000000) (disch := (first | omega | assumption)) only [go_sem]
   refine ⟨rfl, CALLM_det hcx ⟨rfl, rfl⟩ ?_⟩
   cases b with
   | true =>
    rw [if_pos rfl] at g5
    simp (maxSteps := 1000000) (disch := (first | omega | assumption)) only [go_sem]
    exact ⟨i + 1, o ++ [x], 1, rfl, ⟨by omega, by omega, by omega, by simp; omega, g5⟩, by omega⟩
   | false =>
    rw [if_neg (by simp)] at g5
    subst g5
    simp (maxSteps := 1000000) (disch := (first | omega | assumption)) only [go_sem]
  | false =>
   rw [hln2] at g5
   by_cases hla : i = ls.length - 1
   ·rw [if_pos (by rw [decide_eq_true (show ls.length - (i + 1).toNat = 0 by omega)]; rfl)] at g5
    subst g5
    simp (maxSteps := 1000000) (disch := (first | omega | assumption)) only [go_sem]
    trace_state
   ·rw [if_neg (by rw [decide_eq_false (show ¬ls.length - (i + 1).toNat = 0 by omega)]; simp)] at g5
    simp (maxSteps := 1000000) (disch := (first | omega | assumption)) only [go_sem]
    refine ⟨rfl, CALLM_det hcx ⟨rfl, rfl⟩ ?_⟩
    cases b with
    | true =>
     rw [if_pos rfl] at g5
     simp (maxSteps := 1000000) (disch := (first | omega | assumption)) only [go_sem]
     exact ⟨i + 1, o ++ [x], 1, rfl, ⟨by omega, by omega, by omega, by simp; omega, g5⟩, by omega⟩
    | false =>
     rw [if_neg (by simp)] at g5
     subst g5
     simp (maxSteps := 1000000) (disch := (first | omega | assumption)) only [go_sem]
 ·rw [List.drop_eq_nil_of_le (by omega), eachA] at g5
  subst g5
  simp (maxSteps := 1000000) (disch := (first | omega | assumption)) only [go_sem]
def pRe (k : Nat) : Nat := if k = 5 then 1000001 else if k = 1000001 then 5 else k
def qRe (k : Nat) : Nat := if k = 5 then 1000002 else if k = 1000002 then 5 else k
theorem pRe_p (k : Nat) : pRe (pRe k) = k := by unfold pRe; (repeat' split) <;> omega
theorem qRe_q (k : Nat) : qRe (qRe k) = k := by unfold qRe; (repeat' split) <;> omega
theorem getD_size (w : List ByteArray) (i m : Nat) (h : ∀ x ∈ w, x.size ≤ m) : (w.getD i emp).size ≤ m := by
 rw [List.getD_eq_getElem?_getD]
 cases h2 : w[i]? with
 | none => exact Nat.zero_le _
 | some x => exact h x (List.mem_of_getElem? h2)
theorem rdL_size (s : ByteArray) : (rdL s).1.k.size ≤ s.size ∧ (rdL s).1.t.size ≤ s.size := by
 have hw : ∀ x ∈ wds s, x.size ≤ s.size := fun x hx => by
  obtain ⟨y, hy, rfl⟩ := List.mem_map.1 hx
  have := spl_mem 32 _ y hy
  rw [← szL] at this
  rw [bS_size]; omega
 unfold rdL
 split
 ·exact ⟨getD_size _ 0 _ hw, getD_size _ 1 _ hw⟩
 ·exact ⟨Nat.zero_le _, Nat.zero_le _⟩
theorem eachA_size (ends : Bool) (m : Nat) : ∀ (ls : List ByteArray) (i : Int) (o : List Alm), (∀ s ∈ ls, s.size ≤ m) → (∀ x ∈ o, x.k.size ≤ m ∧ x.t.size ≤ m) → (∀ x ∈ (eachA ends ls i o).1, x.k.size ≤ m ∧ x.t.size ≤ m) ∧ (eachA ends ls i o).1.length ≤ o.length + ls.length
 | [], i, o, _, h => ⟨h, by simp [eachA]⟩
 | s :: r, i, o, hs, h => by
  have h2 : ∀ x ∈ o ++ [(rdL s).1], x.k.size ≤ m ∧ x.t.size ≤ m := fun x hx => by
   rcases List.mem_append.1 hx with hx | hx
   ·exact h x hx
   ·rw [List.mem_singleton.1 hx]
    have := rdL_size s
    have := hs s (by simp)
    omega
  rw [eachA]
  split
  ·exact ⟨h, by simp⟩
  ·split
   ·have := eachA_size ends m r (i + 1) _ (fun x hx => hs x (by simp [hx])) h2
    refine ⟨this.1, Nat.le_trans this.2 (by simp; omega)⟩
   ·exact ⟨h2, by simp⟩
theorem frE_alm2 (l : List Alm) : frE (l.map almS) = true := frE_map (fun _ => rfl) l
theorem read_fc (t : ByteArray) (ht : t.size ≤ 1000000) : FC Tryz.prog 25 none [sv t] (fun _ r => r = .tu [alms true (rdF t.data.toList).1, iv (rdF t.data.toList).2.1, iv (rdF t.data.toList).2.2]) := by
 refine fc_read (by simp +arith) ?_
 unfold C_read rdF
 have hsz : t.data.toList.length = t.size := (szL t).symm
 by_cases c1 : t.data.toList.length > 200000
 ·rw [if_pos c1]
  rw [hsz] at c1
  simp (maxSteps := 1000000) (disch := (first | omega | assumption)) only [go_sem]
  rfl
 rw [if_neg c1]
 rw [hsz] at c1
 have he := each_fcm t (by omega)
 have hq : (∀ x ∈ (rdT t.data.toList).1, x.k.size ≤ 1000000 ∧ x.t.size ≤ 1000000) ∧ (rdT t.data.toList).1.length ≤ 1000000 := by
  have h1 := linesA_len t
  have h2 := eachA_size (linesA t.data.toList).2 1000000 (linesA t.data.toList).1 0 [] (fun x hx => by have := linesA_size t x hx; omega) (fun x hx => by cases hx)
  exact ⟨h2.1, Nat.le_trans h2.2 (by simp; omega)⟩
 generalize rdT t.data.toList = R at he hq ⊢
 obtain ⟨o, j, b⟩ := R
 simp only at he hq ⊢
 have hca := checkAlarmsG_fc o hq.2 hq.1
 simp (maxSteps := 1000000) (disch := (first | omega | assumption)) only [go_sem]
 refine ⟨rfl, CALLM_rnE ⟨[(5, [.ow 5 0])], [(5, reRow o)]⟩ (.tu [iv j, bv b]) pRe qRe pRe_p qRe_q he (by simp) rfl rfl rfl rfl ⟨rfl, rfl⟩ ?_⟩
 cases b with
 | false =>
  rw [if_pos rfl]
  simp (maxSteps := 1000000) (disch := (first | omega | assumption)) only [go_sem]
  rfl
 | true =>
  rw [if_neg (by simp)]
  simp (maxSteps := 1000000) (disch := (first | omega | assumption)) only [go_sem]
  refine CALL_det hca (.inl rfl) ?_
  by_cases c2 : caF o ≠ 0
  ·rw [if_pos c2]
   simp (maxSteps := 1000000) (disch := (first | omega | assumption)) only [go_sem]
   rfl
  ·rw [if_neg c2]
   simp (maxSteps := 1000000) (disch := (first | omega | assumption)) only [go_sem]
   rw [frE_alm2]
end Go.Proofs.YtfgkpbkphmeigaaGreatDoor

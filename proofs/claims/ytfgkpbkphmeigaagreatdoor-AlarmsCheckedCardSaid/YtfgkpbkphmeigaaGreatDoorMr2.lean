/-
 slices.Compact of acts; Merge of any two lists of acts.
-/
import Derived.Test.YtfgkpbkphmeigaaGreatDoorMgp
import Derived.Test.YtfgkpbkphmeigaaGreatDoorAc2
import Derived.Test.YtfgkpbkphmeigaaGreatDoorCct
namespace Go.Proofs.YtfgkpbkphmeigaaGreatDoor
open Go Go.Ai
set_option linter.unusedSimpArgs false
set_option linter.unusedVariables false
set_option maxHeartbeats 4000000
def C_cpp : AC := (.seq (.reg false [gI 2 (.mv (.v (.slice none 0 0)))] (kP [0] [] [1000000]))
 (.seq (.seq (.reg false [gM 6 0,gI 7 (.len (.t 6)),gI 8 (.bin .lss (.t 7) (oI 2))] (kP [0,8] [] [1000000]))
 (.cond (.t 8)
 (.seq (.reg false [gM 9 0,gM 2 9] (kP [2] [] [1000000]))
 .ret)
 .skip))
 (.seq (.seq (.reg false [gI 3 (.mv (oI 1))] (kP [0,3] [] [1000000]))
 (.block 0 (.loop (.seq (.seq (.reg false [gM 10 3,gM 11 0,gI 12 (.len (.t 11)),gI 13 (.bin .lss (.t 10) (.t 12))] (kP [0,3,13] [] [1000000]))
 (.cond (.t 13)
 .skip
 (.exit 0)))
 (.seq (.block 1 (.seq (.reg true [gM 16 0,gM 17 3,gI 18 (.iadr 6 (.t 16) (.t 17)),gI 19 (.load true 6 (.t 18)),gM 20 0,gM 21 3,gI 22 (.bin .sub (.t 21) (oI 1)),gI 23 (.iadr 6 (.t 20) (.t 22)),gI 24 (.load true 6 (.t 23)),gI 25 (.eqs false true [.s,.i .i64,.i .i64,.i .i64,.s,.i .i64] (.t 19) (.t 24))] (kP [0,3,25] [] [1000000]))
 (.cond (.t 25)
 (.seq (.reg false [gM 26 0,gM 27 3,gI 28 (.sfx 6 (.t 26) (.t 27)),gM 4 28] (kP [0,3,4] [] [1000000]))
 (.seq (.seq (.reg false [gI 5 (.mv (oI 1))] (kP [0,3,4,5] [] [1000000]))
 (.block 2 (.loop (.seq (.seq (.reg false [gM 29 5,gM 30 4,gI 31 (.len (.t 30)),gI 32 (.bin .lss (.t 29) (.t 31))] (kP [0,3,4,5,32] [] [1000000]))
 (.cond (.t 32)
 .skip
 (.exit 2)))
 (.seq (.block 3 (.seq (.reg true [gM 35 4,gM 36 5,gI 37 (.iadr 6 (.t 35) (.t 36)),gI 38 (.load true 6 (.t 37)),gM 39 4,gM 40 5,gI 41 (.bin .sub (.t 40) (oI 1)),gI 42 (.iadr 6 (.t 39) (.t 41)),gI 43 (.load true 6 (.t 42)),gI 44 (.eqs true true [.s,.i .i64,.i .i64,.i .i64,.s,.i .i64] (.t 38) (.t 43))] (kP [0,3,4,5,44] [] [1000000]))
 (.cond (.t 44)
 (.seq (.reg false [gM 45 0,gM 46 3,gM 47 4,gM 48 5,gI 49 (.iadr 6 (.t 47) (.t 48)),gI 50 (.load true 6 (.t 49)),gI 51 (.iadr 6 (.t 45) (.t 46)),gN (.store 6 (.t 51) (.t 50))] (kP [0,3,4,5] [] [1000000]))
 (.reg false [gM 52 3,gI 53 (.bin .add (.t 52) (oI 1)),gM 3 53] (kP [0,3,4,5] [] [1000000])))
 .skip)))
 (.reg false [gM 33 5,gI 34 (.bin .add (.t 33) (oI 1)),gM 5 34] (kP [0,3,4,5] [] [1000000])))))))
 (.seq (.reg false [gM 54 0,gM 55 3,gI 56 (.sfx 6 (.t 54) (.t 55)),gN (.clr 34 6 [(.string (ByteArray.mk #[])),(.int .i64 (0)),(.int .i64 (0)),(.int .i64 (0)),(.string (ByteArray.mk #[])),(.int .i64 (0))] (.t 56))] (kP [0,3] [] [1000000]))
 (.seq (.reg false [gM 57 0,gM 58 3,gI 59 (.trn 6 (.t 57) (.t 58)),gM 2 59] (kP [2] [] [1000000]))
 .ret))))
 .skip)))
 (.reg false [gM 14 3,gI 15 (.bin .add (.t 14) (oI 1)),gM 3 15] (kP [0,3] [] [1000000])))))))
 (.seq (.reg false [gM 60 0,gM 2 60] (kP [2] [] [1000000]))
 .ret))))
theorem fcm_cpp : FmT Tryz.prog 91 Tryz.f91 C_cpp [.t 2] := fcm_mk [aN [0] [] [1000000],aN [0,8] [] [1000000],aN [2] [] [1000000],aN [0,3] [] [1000000],aN [0,3,13] [] [1000000],aN [0,3,25] [] [1000000],⟨(kP [0,3,4] [] [1000000]),[],[],[],[(28,⟨[],[],[],[],[]⟩)]⟩,aN [0,3,4,5] [] [1000000],aN [0,3,4,5,32] [] [1000000],aN [0,3,4,5,44] [] [1000000],aN [0,3,4,5] [] [1000000],aN [0,3,4,5] [] [1000000],aN [0,3,4,5] [] [1000000],⟨(kP [0,3] [] [1000000]),[],[],[],[(56,⟨[],[],[],[],[]⟩)]⟩,⟨(kP [2] [] [1000000]),[],[],[],[(59,⟨[],[],[],[],[]⟩)]⟩,aN [0,3] [] [1000000],aN [2] [] [1000000]] Tryz.func91 (by kernel_rfl)
def C_mrgX : AC := (.seq (.reg false [gI 4 (.mv (.v (.slice none 0 0))),gI 5 (.mv (oI 0))] (kP [0,1] [] []))
 (.seq (.seq (.reg false [gM 11 0,gI 12 (.call (.f 17) [(.t 11)]),gM 13 1,gI 14 (.call (.f 17) [(.t 13)]),gI 15 (.bslice 1 2 [(.t 12),(.t 14)]),gI 16 (.call (.f 88) [(.t 15)]),gM 6 16] (kP [0,1,6] [] []))
 (.seq (.reg false [gM 17 6,gI 18 (.bin .neq (.t 17) (oI 0))] (kP [0,1,6,18] [] []))
 (.cond (.t 18)
 (.seq (.seq (.reg false [gM 19 6,gI 4 (.mv (.v (.slice none 0 0))),gM 5 19] (kP [4,5] [] []))
 (.ty 4 6))
 .ret)
 .skip)))
 (.seq (.reg false [gM 20 0,gM 21 1,gI 22 (.bslice 1 2 [(.t 20),(.t 21)]),gI 23 (.callm (.f 89) [(.t 22)] ⟨[],[],[],[5000],[]⟩),gM 7 23] (kP [7] [] [5000]))
 (.seq (.reg false [gM 24 7,gI 25 (.callm (.f 90) [(.t 24),(.f 87)] ⟨[],[5000],[],[5000],[5000]⟩)] (kP [7] [] [5000]))
 (.seq (.reg false [gM 26 7,gI 27 (.callm (.f 91) [(.t 26)] ⟨[],[5000],[],[5000],[]⟩),gM 7 27] (kP [7] [] []))
 (.seq (.seq (.reg false [gM 28 7,gI 29 (.len (.t 28)),gI 30 (.mv (oI 0))] (kP [7,28,29,30] [] []))
 (.block 0 (.loop (.seq (.reg false [gI 31 (.bin .lss (.t 30) (.t 29))] (kP [7,28,29,30,31] [] []))
 (.seq (.cond (.t 31)
 .skip
 (.exit 0))
 (.seq (.block 1 (.seq (.reg false [gM 32 30,gI 33 (.iadr 6 (.t 28) (.t 30)),gI 34 (.load true 6 (.t 33)),gI 9 (.alloc [(.string (ByteArray.mk #[])),(.int .i64 (0)),(.int .i64 (0)),(.int .i64 (0)),(.string (ByteArray.mk #[])),(.int .i64 (0))]),gM 8 32,gN (.store 6 (.t 9) (.t 34))] (kP [7,8,9,28,29,30] [9] []))
 (.seq (.reg true [gM 35 8,gI 36 (.bin .gtr (.t 35) (oI 0)),gM 37 36,gG 38 37 true (.load true 6 (.t 9)),gG 39 37 true (.mv (.t 7)),gG 40 37 true (.mv (.t 8)),gG 41 37 true (.bin .sub (.t 40) (oI 1)),gG 42 37 true (.iadr 6 (.t 39) (.t 41)),gG 43 37 true (.load true 6 (.t 42)),gG 44 37 true (.call (.f 87) [(.t 38),(.t 43)]),gG 45 37 true (.bin .eql (.t 44) (oI 0)),gI 46 (.pick (.t 37) (.t 45) (.v (.bool false)))] (kP [7,28,29,30,46] [] []))
 (.cond (.t 46)
 (.seq (.seq (.reg false [gI 4 (.mv (.v (.slice none 0 0))),gI 5 (.mv (oI 13))] (kP [4,5] [] []))
 (.ty 4 6))
 .ret)
 .skip))))
 (.reg false [gI 47 (.bin .add (.t 30) (oI 1)),gM 30 47] (kP [7,28,29,30] [] []))))))))
 (.seq (.seq (.reg false [gM 48 7,gI 49 (.call (.f 17) [(.t 48)]),gM 10 49] (kP [7,10] [] []))
 (.seq (.reg false [gM 50 10,gI 51 (.bin .neq (.t 50) (oI 0))] (kP [7,10,51] [] []))
 (.cond (.t 51)
 (.seq (.seq (.reg false [gM 52 10,gI 4 (.mv (.v (.slice none 0 0))),gM 5 52] (kP [4,5] [] []))
 (.ty 4 6))
 .ret)
 .skip)))
 (.seq (.reg false [gM 53 7,gM 4 53,gI 5 (.mv (oI 0))] (kP [4,5] [] []))
 .ret))))))))
theorem fc_mrgX : FcT Tryz.prog 18 Tryz.f18 C_mrgX [.t 4, .t 5] := fc_mk [aN [0,1] [] [],aN [0,1,6] [] [],aN [0,1,6,18] [] [],⟨(kP [4,5] [] []),[],[],[(4,6)],[]⟩,⟨(kP [7] [] [5000]),[],[],[],[(23,⟨[],[],[],[5000],[]⟩)]⟩,⟨(kP [7] [] [5000]),[],[],[],[(25,⟨[],[5000],[],[5000],[5000]⟩)]⟩,⟨(kP [7] [] []),[],[],[],[(27,⟨[],[5000],[],[5000],[]⟩)]⟩,aN [7,28,29,30] [] [],aN [7,28,29,30,31] [] [],aN [7,8,9,28,29,30] [9] [],aN [7,28,29,30,46] [] [],⟨(kP [4,5] [] []),[],[],[(4,6)],[]⟩,aN [7,28,29,30] [] [],aN [7,10] [] [],aN [7,10,51] [] [],⟨(kP [4,5] [] []),[],[],[(4,6)],[]⟩,aN [4,5] [] []] Tryz.func18 (by kernel_rfl)
theorem take_len_last (l : List Opr) (n : Nat) (h0 : 0 < n) (hn : n ≤ l.length) : (l.take n).getLast? = some (l.getD (n - 1) default) := by
 rw [show n = (n - 1) + 1 by omega, take_snoc (by omega)]; simp
structure CpI (l : List Opr) (k0 : Nat) (j k : Int) (m : List Opr) : Prop where
 j1 : 1 ≤ j
 j2 : (k0 : Int) + j ≤ l.length
 hk : k = (ddG (l.take (k0 + j.toNat))).length
 ht : m.take k.toNat = ddG (l.take (k0 + j.toNat))
 hd : ∀ i, k0 + j.toNat - 1 ≤ i → m.getD i default = l.getD i default
 len : m.length = l.length
 le : k ≤ (k0 : Int) + j - 1
theorem CpI.same {l : List Opr} {k0 : Nat} {j k : Int} {m : List Opr} (h : CpI l k0 j k m) (hj : j < l.length - k0) (he : l.getD (k0 + j.toNat) default = l.getD (k0 + j.toNat - 1) default) : CpI l k0 (j + 1) k m := by
 obtain ⟨h1, h2, h3, h4, h5, h6, h7⟩ := h
 have e : ddG (l.take (k0 + (j + 1).toNat)) = ddG (l.take (k0 + j.toNat)) := by
  rw [show k0 + (j + 1).toNat = (k0 + j.toNat) + 1 by omega, take_snoc (by omega), ddG_snoc', take_len_last _ _ (by omega) (by omega), he, if_pos rfl]
 exact ⟨by omega, by omega, by rw [e]; exact h3, by rw [e]; exact h4, fun i hi => h5 i (by omega), h6, by omega⟩
theorem CpI.new {l : List Opr} {k0 : Nat} {j k : Int} {m : List Opr} (h : CpI l k0 j k m) (hj : j < l.length - k0) (he : l.getD (k0 + j.toNat) default ≠ l.getD (k0 + j.toNat - 1) default) : CpI l k0 (j + 1) (k + 1) (m.set k.toNat (l.getD (k0 + j.toNat) default)) := by
 obtain ⟨h1, h2, h3, h4, h5, h6, h7⟩ := h
 have e : ddG (l.take (k0 + (j + 1).toNat)) = ddG (l.take (k0 + j.toNat)) ++ [l.getD (k0 + j.toNat) default] := by
  rw [show k0 + (j + 1).toNat = (k0 + j.toNat) + 1 by omega, take_snoc (by omega), ddG_snoc', take_len_last _ _ (by omega) (by omega), if_neg (fun h => he (Option.some.inj h).symm)]
 have hk : k.toNat < m.length := by omega
 refine ⟨by omega, by omega, by rw [e, List.length_append, List.length_singleton]; omega, ?_, fun i hi => ?_, by rw [List.length_set]; exact h6, by omega⟩
 ·rw [e, show (k + 1).toNat = k.toNat + 1 by omega, take_snoc (by rw [List.length_set]; exact hk), List.take_set_of_le (Nat.le_refl _), h4]
  simp [List.getD_eq_getElem?_getD, hk]
 ·rw [List.getD_eq_getElem?_getD, List.getElem?_set_ne (by omega), ← List.getD_eq_getElem?_getD]
  exact h5 i (by omega)
def cp1St (i : Int) (l : List Opr) : AS := ⟨tabV [(0, .one (.ow 1000000 0)), (3, iv i)], tabO [], tabO [(1000000, opRow l)]⟩
def cp2St (k0 : Nat) (j k : Int) (m : List Opr) : AS := ⟨tabV [(0, .one (.ow 1000000 0)), (3, iv k), (4, .one (.os 1000000 0 k0)), (5, iv j)], tabO [], tabO [(1000000, opRow m)]⟩
theorem ddG_short (l : List Opr) (h : l.length < 2) : ddG l = l := by
 rcases l with _ | ⟨x, _ | ⟨y, l⟩⟩
 ·rfl
 ·rfl
 ·simp at h; omega
theorem cpp_fcm (l : List Opr) (hl : l.length ≤ 4000) : FCM Tryz.prog 91 ⟨[], [(1000000, opRow l)]⟩ [.one (.ow 1000000 0)] (fun H r => H = ⟨[], [(1000000, opRow (ddG l))]⟩ ∧ r = .one (.ow 1000000 0)) := by
 refine fcm_cpp (K := ⟨[], [], [1000000]⟩) (by simp +arith) (by simp [XK]) (by simp [XK]) ?_
 unfold C_cpp
 by_cases h2 : l.length < 2
 ·rw [ddG_short l h2]
  simp (maxSteps := 1000000) (disch := omega) only [go_sem]
 ·simp (maxSteps := 1000000) (disch := omega) only [go_sem]
  refine ex_loopI (fun i : Int => cp1St i l) (fun i => 1 ≤ i ∧ i ≤ l.length ∧ ddG (l.take i.toNat) = l.take i.toNat) (fun i => (l.length - i).toNat) 1 ⟨by omega, by omega, ddG_short _ (by rw [List.length_take]; omega)⟩ rfl ?_
  rintro i ⟨i1, i2, i3⟩
  unfold cp1St
  by_cases hi : i < l.length
  ·have htk : (l.take i.toNat).getLast? = some (l.getD (i.toNat - 1) default) := take_len_last _ _ (by omega) (by omega)
   have hsn : ddG (l.take (i.toNat + 1)) = if (l.take i.toNat).getLast? = some (l.getD i.toNat default) then l.take i.toNat else l.take i.toNat ++ [l.getD i.toNat default] := by
    rw [take_snoc (by omega), ddG_snoc', i3]
   have hml : (l.take i.toNat).length = i.toNat := by rw [List.length_take]; omega
   simp (maxSteps := 1000000) (disch := omega) only [go_sem]
   rw [show (i - 1).toNat = i.toNat - 1 by omega]
   refine ⟨fun ⟨e1, e2, e3, e4, e5, e6⟩ => ?_, fun hne => ⟨i + 1, ⟨by omega, by omega, ?_⟩, rfl, by omega⟩⟩
   ·have heq := opr_ext e1 e2 e3 e4 e5 e6
    rw [if_pos (by rw [htk, heq])] at hsn
    refine ex_loop3 (cp2St i.toNat) (fun j k m => CpI l i.toNat j k m) (fun j _ _ => (l.length - j).toNat) 1 i l ⟨by omega, by omega, by rw [show i.toNat + Int.toNat 1 = i.toNat + 1 from rfl, hsn, hml]; omega, by rw [show i.toNat + Int.toNat 1 = i.toNat + 1 from rfl, hsn], fun _ _ => rfl, rfl, by omega⟩ rfl ?_
    rintro j k m hI
    have g1 := hI.j1
    have g2 := hI.j2
    have g3 := hI.len
    have g4 := hI.le
    have g5 := hI.hk
    unfold cp2St
    by_cases hj : j < l.length - i.toNat
    ·have r1 := getD_map_at oprS m (i.toNat + j) [] (by omega) (by omega)
     have d1 := hI.hd (i.toNat + j.toNat) (by omega)
     have d2 := hI.hd (i.toNat + j.toNat - 1) (by omega)
     simp (maxSteps := 1000000) (disch := omega) only [go_sem]
     rw [show i.toNat + (j - 1).toNat = i.toNat + j.toNat - 1 by omega, d1, d2]
     refine ⟨fun hne => ⟨j + 1, k + 1, m.set k.toNat (l.getD (i.toNat + j.toNat) default), by simp only [opRow, List.map_set, oprS_eq], hI.new hj (fun h => hne (by rw [h]; exact ⟨rfl, rfl, rfl, rfl, rfl, rfl⟩)), by omega⟩, fun he => ?_⟩
     obtain ⟨e1, e2, e3, e4, e5, e6⟩ := Classical.not_not.1 he
     exact ⟨j + 1, k, m, rfl, hI.same hj (opr_ext e1 e2 e3 e4 e5 e6), by omega⟩
    ·have hjl : i.toNat + j.toNat = l.length := by omega
     have g6 := hI.ht
     rw [hjl, List.take_length] at g5 g6
     have g7 : (List.take k.toNat (m.map oprS)).length = k.toNat := by rw [List.length_take, List.length_map]; omega
     have g8 : List.take k.toNat (m.map oprS) = (ddG l).map oprS := by rw [← List.map_take, g6]
     simp (maxSteps := 1000000) (disch := omega) only [go_sem]
     refine and_then ⟨by omega, by rw [List.length_append, g7, List.length_replicate]; omega, by rw [List.length_append, g7, List.length_replicate]; omega⟩ fun _ => ?_
     rw [List.take_append_of_le_length (by omega), List.take_of_length_le (by omega), g8]
   ·rw [show (i + 1).toNat = i.toNat + 1 by omega, hsn, if_neg, take_snoc (by omega)]
    rw [htk]
    exact fun h => hne (by rw [Option.some.inj h]; exact ⟨rfl, rfl, rfl, rfl, rfl, rfl⟩)
  ·rw [List.take_of_length_le (by omega)] at i3
   rw [i3]
   simp (maxSteps := 1000000) (disch := omega) only [go_sem]
def mgSt (l : List Opr) (i : Int) : AS := ⟨tabV [(7, oprs true l), (28, oprs true l), (29, iv l.length), (30, iv i)], tabO [], tabO []⟩
theorem outM_len (p q : List Opr) : (outM p q).length ≤ p.length + q.length := by
 have := (ddG_sub _ (ssort cmpO (p ++ q)) rfl).length_le
 rw [ssort_length, List.length_append] at this
 exact this
/-- Merge of any lists of acts. -/
theorem mrgX_fc (p q : List Opr) (hsp : ∀ x ∈ p, x.sm) (hsq : ∀ x ∈ q, x.sm) (h8 : p.length + q.length ≤ 19) : FC Tryz.prog 18 none [oprs false p, oprs false q] (fun _ r => r = if ofF p ≠ 0 then .tu [oprs true [], iv (ofF p)] else if ofF q ≠ 0 then .tu [oprs true [], iv (ofF q)] else .tu [oprs true (mgE p q).1, iv (mgE p q).2]) := by
 refine fc_mrgX (by simp +arith) ?_
 have hol := outM_len p q
 have hom : ∀ x ∈ outM p q, x.sm := fun x hx => (outM_mem.1 hx).elim (hsp x) (hsq x)
 unfold C_mrgX
 simp (maxSteps := 1000000) (disch := omega) only [go_sem]
 refine CALL_det (checkActsG_fc p (by omega) hsp) (.inl rfl) ?_
 simp (maxSteps := 1000000) (disch := omega) only [go_sem]
 refine CALL_det (checkActsG_fc q (by omega) hsq) (.inl rfl) ?_
 simp (maxSteps := 1000000) (disch := omega) only [go_sem]
 refine CALL_det (first_fc false [ofF p, ofF q] (by simp)) (.inl rfl) ?_
 by_cases c1 : ofF p ≠ 0
 ·rw [show orSp [ofF p, ofF q] = ofF p from if_pos c1, if_pos c1]
  simp (maxSteps := 1000000) (disch := omega) only [go_sem]
  rfl
 rw [if_neg c1]
 by_cases c2 : ofF q ≠ 0
 ·rw [show orSp [ofF p, ofF q] = ofF q from (if_neg c1).trans (if_pos c2), if_pos c2]
  simp (maxSteps := 1000000) (disch := omega) only [go_sem]
  rfl
 rw [if_neg c2, show orSp [ofF p, ofF q] = 0 from (if_neg c1).trans (if_neg c2)]
 have hp : ActOk p := actOk_of (by omega)
 have hq : ActOk q := actOk_of (by omega)
 simp (maxSteps := 1000000) (disch := omega) only [go_sem]
 refine ⟨rfl, CALLM_det (cct_fcm p q (by omega) (by omega)) ⟨rfl, rfl⟩ ?_⟩
 simp (maxSteps := 1000000) (disch := omega) only [go_sem]
 have hso := ssfO_fcm 87 (swoO fun _ => True) (fun x y _ _ => byOp_fc x y) (p ++ q) (fun _ _ => trivial) (by rw [List.length_append]; omega)
 refine ⟨rfl, CALLM_rnES ⟨[], [(5000, opRow (ssort cmpO (p ++ q)))]⟩ (.tu []) (fun k => k) (Go.Ai.swp 5000 1000000) (fun _ => rfl) (Go.Ai.swp_swp 5000 1000000) hso (by simp) rfl rfl rfl rfl rfl ⟨rfl, rfl⟩ ?_⟩
 simp (maxSteps := 1000000) (disch := omega) only [go_sem]
 have hsl : (ssort cmpO (p ++ q)).length ≤ 4000 := by rw [ssort_length, List.length_append]; omega
 refine ⟨rfl, CALLM_rnE ⟨[], [(5000, opRow (outM p q))]⟩ (.one (.ow 5000 0)) (fun k => k) (Go.Ai.swp 5000 1000000) (fun _ => rfl) (Go.Ai.swp_swp 5000 1000000) (cpp_fcm (ssort cmpO (p ++ q)) hsl) (by simp) rfl rfl rfl rfl ⟨rfl, rfl⟩ ?_⟩
 have hcf : cfB p q = true → ∃ i, i + 1 < (outM p q).length ∧ cmpO ((outM p q).getD (i + 1) default) ((outM p q).getD i default) = 0 := outM_cf
 have hnc : cfB p q = false → (outM p q).Pairwise fun a b => cmpO a b < 0 := outM_pw hp hq
 have hm1 : mgE p q = if cfB p q = true then ([], 13) else if ofF (outM p q) ≠ 0 then ([], ofF (outM p q)) else (outM p q, 0) := rfl
 rw [hm1]
 generalize outM p q = l at *
 generalize cfB p q = cf at *
 simp (maxSteps := 1000000) (disch := omega) only [go_sem]
 refine ex_loopI (fun i : Int => mgSt l i) (fun i => 0 ≤ i ∧ i ≤ l.length ∧ ∀ j : Nat, j + 1 < i → cmpO (l.getD (j + 1) default) (l.getD j default) ≠ 0) (fun i => (l.length - i).toNat) 0 ⟨by omega, by omega, fun j hj => by omega⟩ rfl ?_
 rintro i ⟨i1, i2, i3⟩
 unfold mgSt
 by_cases hi : i < l.length
 ·have em := getD_map_at oprS l i [] i1 hi
  by_cases h0 : 0 < i
  ·have ep := getD_map_at oprS l (i - 1) [] (by omega) (by omega)
   have e1 : (i - 1).toNat + 1 = i.toNat := by omega
   by_cases hc : cmpO (l.getD i.toNat default) (l.getD (i - 1).toNat default) = 0
   ·have hcb : cf = true := by
     cases cf with
     | true => rfl
     | false =>
      exfalso
      have := pw_uniq (hnc rfl) (mem_at (show i.toNat < l.length by omega)) (mem_at (show (i - 1).toNat < l.length by omega)) hc
      have h2 := List.pairwise_iff_getElem.1 (hnc rfl) (i - 1).toNat i.toNat (by omega) (by omega) (by omega)
      have ea : l.getD (i - 1).toNat default = l[(i - 1).toNat] := by rw [List.getD_eq_getElem?_getD, List.getElem?_eq_getElem (by omega)]; rfl
      have eb : l.getD i.toNat default = l[i.toNat] := by rw [List.getD_eq_getElem?_getD, List.getElem?_eq_getElem (by omega)]; rfl
      rw [← ea, ← eb, this] at h2
      exact cmpO_self _ h2
    subst hcb
    rw [if_pos rfl]
    have hbo := byOp_fc (l.getD i.toNat default) (l.getD (i - 1).toNat default)
    rw [hc] at hbo
    simp (maxSteps := 1000000) (disch := omega) only [go_sem]
    refine CALL_det hbo (.inl rfl) ?_
    simp (maxSteps := 1000000) (disch := omega) only [go_sem]
    rfl
   ·have hbo := byOp_fc (l.getD i.toNat default) (l.getD (i - 1).toNat default)
    have i4 : ∀ j : Nat, j + 1 < i + 1 → cmpO (l.getD (j + 1) default) (l.getD j default) ≠ 0 := fun j hj => by
     by_cases e : (j : Int) + 1 < i
     ·exact i3 j e
     ·have : j = (i - 1).toNat := by omega
      subst this
      rw [e1]; exact hc
    generalize cmpO (l.getD i.toNat default) (l.getD (i - 1).toNat default) = e at *
    simp (maxSteps := 1000000) (disch := omega) only [go_sem]
    refine CALL_det hbo (.inl rfl) ?_
    simp (maxSteps := 1000000) (disch := omega) only [go_sem]
    exact ⟨i + 1, ⟨by omega, by omega, i4⟩, rfl, by omega⟩
  ·simp (maxSteps := 1000000) (disch := omega) only [go_sem]
   exact ⟨i + 1, ⟨by omega, by omega, fun j hj => by omega⟩, rfl, by omega⟩
 ·have hcb : cf = false := by
   cases cf with
   | false => rfl
   | true =>
    obtain ⟨j, hj, hz⟩ := hcf rfl
    exact absurd hz (i3 j (by omega))
  subst hcb
  rw [if_neg (by simp)]
  have hck := checkActsG_fc l (by omega) hom
  by_cases c3 : ofF l ≠ 0
  ·rw [if_pos c3]
   simp (maxSteps := 1000000) (disch := omega) only [go_sem]
   refine CALL_det hck (.inl rfl) ?_
   simp (maxSteps := 1000000) (disch := omega) only [go_sem]
   rfl
  ·rw [if_neg c3]
   rw [show ofF l = 0 by omega] at hck
   simp (maxSteps := 1000000) (disch := omega) only [go_sem]
   refine CALL_det hck (.inl rfl) ?_
   simp (maxSteps := 1000000) (disch := omega) only [go_sem]
end Go.Proofs.YtfgkpbkphmeigaaGreatDoor

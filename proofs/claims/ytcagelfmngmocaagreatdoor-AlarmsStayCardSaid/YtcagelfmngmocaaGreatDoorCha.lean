
/-
 Chattering, for one time at least: the alarms that become active within the window.
-/
import Derived.Test.YtcagelfmngmocaaGreatDoorLog
import Derived.Test.YtcagelfmngmocaaGreatDoorMrp
import Derived.Test.YtcagelfmngmocaaGreatDoorSrk
namespace Go.Proofs.YtcagelfmngmocaaGreatDoor
open Go Go.Ai
set_option linter.unusedSimpArgs false
set_option linter.unusedVariables false
set_option maxHeartbeats 4000000
def C_chStarts : AC := (.seq (.reg false [gI 3 (.box (.t 0)),gI 5 (.box (.t 2)),gI 6 (.mv (.v (.slice none 0 0)))] (kP [1,3,5] [3,5] []))
 (.seq (.seq (.reg false [gI 7 (.mv (.v (.slice none 0 0)))] (kP [1,3,5,7] [3,5] []))
 (.own 7 3 1))
 (.seq (.seq (.reg true [gI 10 (.load true 10 (.t 3)),gM 11 1,gI 12 (.fadr 1 (.t 3)),gI 13 (.load false 1 (.t 12)),gI 14 (.call (.f 95) [(.t 11),(.t 13)]),gI 15 (.call (.f 94) [(.t 10),(.t 14),(oI 345686400000)]),gI 16 (.len (.t 15)),gI 17 (.mv (oI 0))] (kP [5,7,15,16,17] [5] [7]))
 (.block 0 (.loop (.seq (.reg false [gI 18 (.bin .lss (.t 17) (.t 16))] (kP [5,7,15,16,17,18] [5] [7]))
 (.seq (.cond (.t 18)
 .skip
 (.exit 0))
 (.seq (.block 1 (.seq (.reg false [gI 19 (.iadr 2 (.t 15) (.t 17)),gI 20 (.load true 2 (.t 19)),gI 9 (.alloc [(.int .i64 (0)),(.int .i64 (0))]),gN (.store 2 (.t 9) (.t 20))] (kP [5,7,9,15,16,17] [5,9] [7]))
 (.seq (.reg false [gI 21 (.load true 2 (.t 5)),gI 22 (.fadr 0 (.t 9)),gI 23 (.load false 1 (.t 22)),gI 24 (.call (.f 40) [(.t 21),(.t 23)])] (kP [5,7,9,15,16,17,24] [5,9] [7]))
 (.cond (.t 24)
 (.reg false [gM 25 7,gI 26 (.fadr 0 (.t 9)),gI 27 (.load false 1 (.t 26)),gI 28 (.bslice 1 1 [(.t 27)]),gI 29 (.append 3 1 8 (.t 25) (.t 28)),gM 7 29] (kP [5,7,15,16,17] [5] [7]))
 .skip))))
 (.reg false [gI 30 (.bin .add (.t 17) (oI 1)),gM 17 30] (kP [5,7,15,16,17] [5] [7]))))))))
 (.seq (.reg false [gM 31 7,gM 6 31] (kP [6] [] []))
 .ret))))
theorem fc_chStarts : FcT Tryz.prog 64 Tryz.f64 C_chStarts [.t 6] := fc_mk [aN [1,3,5] [3,5] [],⟨(kP [1,3,5,7] [3,5] []),[(7,3,1)],[],[],[]⟩,aN [5,7,15,16,17] [5] [7],aN [5,7,15,16,17,18] [5] [7],aN [5,7,9,15,16,17] [5,9] [7],aN [5,7,9,15,16,17,24] [5,9] [7],aN [5,7,15,16,17] [5] [7],aN [5,7,15,16,17] [5] [7],aN [6] [] []] Tryz.func64 (by kernel_rfl)
def C_chMany : AC := (.seq (.reg false [gI 4 (.mv (oI 0))] (kP [0,1] [] []))
 (.seq (.seq (.reg false [gM 5 0,gI 6 (.call (.f 46) [(.t 5),(oI 1),(oI 5000)]),gM 7 6,gG 8 7 false (.mv (.t 1)),gG 9 7 false (.call (.f 46) [(.t 8),(oI 1),(oI 604800000)]),gI 10 (.pick (.t 7) (.v (.bool true)) (.t 9))] (kP [10] [] []))
 (.cond (.t 10)
 (.seq (.reg false [gI 4 (.mv (oI 1))] (kP [4] [] []))
 .ret)
 .skip))
 (.seq (.reg false [gI 4 (.mv (oI 0))] (kP [4] [] []))
 .ret)))
theorem fc_chMany : FcT Tryz.prog 63 Tryz.f63 C_chMany [.t 4] := fc_mk [aN [0,1] [] [],aN [10] [] [],aN [4] [] [],aN [4] [] []] Tryz.func63 (by kernel_rfl)
def C_chat : AC := (.seq (.reg false [gI 7 (.box (.t 2)),gI 10 (.mv (.v (.slice none 0 0))),gI 11 (.mv (oI 0))] (kP [0,1,3,4,7] [7] [13]))
 (.seq (.seq (.reg false [gM 18 0,gM 19 1,gI 20 (.load true 2 (.t 7)),gI 21 (.call (.f 36) [(.t 18),(.t 19),(.v (.slice none 0 0)),(.t 20)]),gM 22 3,gM 23 4,gI 24 (.call (.f 63) [(.t 22),(.t 23)]),gI 25 (.bslice 1 2 [(.t 21),(.t 24)]),gI 26 (.call (.f 55) [(.t 25)]),gM 12 26] (kP [0,1,3,4,7,12] [7] [13]))
 (.seq (.reg false [gM 27 12,gI 28 (.bin .neq (.t 27) (oI 0))] (kP [0,1,3,4,7,12,28] [7] [13]))
 (.cond (.t 28)
 (.seq (.seq (.reg false [gM 29 12,gI 10 (.mv (.v (.slice none 0 0))),gM 11 29] (kP [10,11] [] [13]))
 (.ty 10 1))
 .ret)
 .skip)))
 (.seq (.seq (.reg false [gI 13 (.mv (.v (.slice none 0 0)))] (kP [0,1,3,4,7,13] [7] []))
 (.own 13 9 1))
 (.seq (.seq (.reg false [gM 30 0,gI 31 (.len (.t 30)),gI 32 (.mv (oI 0))] (kP [1,3,4,7,13,30,31,32] [7] [13]))
 (.block 0 (.loop (.seq (.reg false [gI 33 (.bin .lss (.t 32) (.t 31))] (kP [1,3,4,7,13,30,31,32,33] [7] [13]))
 (.seq (.cond (.t 33)
 .skip
 (.exit 0))
 (.seq (.block 1 (.seq (.reg false [gI 34 (.iadr 10 (.t 30) (.t 32)),gI 35 (.load true 10 (.t 34)),gI 15 (.alloc [(.string (ByteArray.mk #[])),(.string (ByteArray.mk #[])),(.int .i64 (0)),(.int .i64 (0)),(.int .i64 (0)),(.int .i64 (0)),(.int .i64 (0)),(.int .i64 (0)),(.bool false),(.string (ByteArray.mk #[]))]),gN (.store 10 (.t 15) (.t 35))] (kP [1,3,4,7,13,15,30,31,32] [7,15] [13]))
 (.seq (.reg false [gI 36 (.load true 10 (.t 15)),gM 37 1,gI 38 (.load true 2 (.t 7)),gI 39 (.call (.f 64) [(.t 36),(.t 37),(.t 38)]),gM 16 39] (kP [1,3,4,7,13,15,16,30,31,32] [7,15] [13]))
 (.seq (.reg false [gM 40 3,gI 41 (.bin .sub (.t 40) (oI 1)),gM 17 41] (kP [1,3,4,7,13,15,16,17,30,31,32] [7,15] [13]))
 (.block 2 (.loop (.seq (.seq (.reg false [gM 42 17,gM 43 16,gI 44 (.len (.t 43)),gI 45 (.bin .lss (.t 42) (.t 44))] (kP [1,3,4,7,13,15,16,17,30,31,32,45] [7,15] [13]))
 (.cond (.t 45)
 .skip
 (.exit 2)))
 (.seq (.block 3 (.seq (.reg true [gM 48 16,gM 49 17,gI 50 (.iadr 1 (.t 48) (.t 49)),gI 51 (.load false 1 (.t 50)),gM 52 16,gM 53 17,gM 54 3,gI 55 (.bin .sub (.t 53) (.t 54)),gI 56 (.bin .add (.t 55) (oI 1)),gI 57 (.iadr 1 (.t 52) (.t 56)),gI 58 (.load false 1 (.t 57)),gI 59 (.bin .sub (.t 51) (.t 58)),gM 60 4,gI 61 (.bin .lss (.t 59) (.t 60))] (kP [1,3,4,7,13,15,16,17,30,31,32,61] [7,15] [13]))
 (.cond (.t 61)
 (.seq (.reg false [gM 62 13,gI 63 (.fadr 0 (.t 15)),gI 64 (.load false 1 (.t 63)),gI 65 (.bslice 1 1 [(.t 64)]),gI 66 (.append 9 1 16 (.t 62) (.t 65)),gM 13 66] (kP [1,3,4,7,13,30,31,32] [7] [13]))
 (.exit 2))
 .skip)))
 (.reg false [gM 46 17,gI 47 (.bin .add (.t 46) (oI 1)),gM 17 47] (kP [1,3,4,7,13,15,16,17,30,31,32] [7,15] [13]))))))))))
 (.reg false [gI 67 (.bin .add (.t 32) (oI 1)),gM 32 67] (kP [1,3,4,7,13,30,31,32] [7] [13]))))))))
 (.seq (.reg false [gM 68 13,gM 10 68,gI 11 (.mv (oI 0))] (kP [10,11] [] [13]))
 .ret)))))
theorem fcm_chat : FmT Tryz.prog 17 Tryz.f17 C_chat [.t 10, .t 11] := fcm_mk [aN [0,1,3,4,7] [7] [13],aN [0,1,3,4,7,12] [7] [13],aN [0,1,3,4,7,12,28] [7] [13],⟨(kP [10,11] [] [13]),[],[],[(10,1)],[]⟩,⟨(kP [0,1,3,4,7,13] [7] []),[(13,9,1)],[],[],[]⟩,aN [1,3,4,7,13,30,31,32] [7] [13],aN [1,3,4,7,13,30,31,32,33] [7] [13],aN [1,3,4,7,13,15,30,31,32] [7,15] [13],aN [1,3,4,7,13,15,16,30,31,32] [7,15] [13],aN [1,3,4,7,13,15,16,17,30,31,32] [7,15] [13],aN [1,3,4,7,13,15,16,17,30,31,32,45] [7,15] [13],aN [1,3,4,7,13,15,16,17,30,31,32,61] [7,15] [13],aN [1,3,4,7,13,30,31,32] [7] [13],aN [1,3,4,7,13,15,16,17,30,31,32] [7,15] [13],aN [1,3,4,7,13,30,31,32] [7] [13],aN [10,11] [] [13]] Tryz.func17 (by kernel_rfl)
def stA (w : List (Int × Int)) (f t : Int) : List Int := (w.map (·.1)).filter fun a => decide (f ≤ a ∧ a < t)
theorem stA_snoc (w : List (Int × Int)) (x : Int × Int) (f t : Int) : stA (w ++ [x]) f t = stA w f t ++ (if f ≤ x.1 ∧ x.1 < t then [x.1] else []) := by
 unfold stA
 rw [List.map_append, List.filter_append]
 congr 1
 by_cases h : f ≤ x.1 ∧ x.1 < t <;> simp [h]
theorem stA_len (w : List (Int × Int)) (f t : Int) : (stA w f t).length ≤ w.length := by
 unfold stA
 refine Nat.le_trans (List.length_filter_le _ _) ?_
 simp
def ch1St (f t : Int) (w : List (Int × Int)) (j : Int) (o : List Int) : AS := ⟨tabV [(5, .one (.bx 5 0)), (7, .one (.ow 7 0)), (15, .one (.sl true 2 (w.map frC))), (16, iv w.length), (17, iv j)], tabO [(5, [.g (.int .i64 f), .g (.int .i64 t)])], tabO [(7, nRow o)]⟩
theorem starts_fc (l : List Alm) (s : List Ser) (h1 : AlmOk l) (h2 : SerOk s) (i : Nat) (hi : i < l.length) (f t : Int) (hw : (winsA s (l.getD i default)).length ≤ 1000000) :
  FC Tryz.prog 64 none [.ag (almS (l.getD i default)), sers false s, .ag [.g (.int .i64 f), .g (.int .i64 t)]] (fun _ r => r = ints true (stA (winsA s (l.getD i default)) f t)) := by
 refine fc_chStarts (by simp +arith) ?_
 have hs := h2.len
 have hf := h1.flt i hi
 obtain ⟨kk, hff⟩ := almG_ok hf
 obtain ⟨f1, f2, f3, f4, f5, f6⟩ := almF_ok hff
 have hac := active_fc (l.getD i default).k (l.getD i default).t (l.getD i default).p (l.getD i default).lt (l.getD i default).kd (l.getD i default).lim (l.getD i default).db (l.getD i default).on (l.getD i default).off (l.getD i default).pr 345686400000 (samO s (l.getD i default).t) (samO_good h2 _) f2 f3 f4 f5
 rw [show actW (l.getD i default).kd (l.getD i default).lim (l.getD i default).db (l.getD i default).on (l.getD i default).off 345686400000 (samO s (l.getD i default).t) = winsA s (l.getD i default) from rfl] at hac
 have hsa := samples_fc (l.getD i default).t s (by omega) h2.up
 obtain ⟨fr, hfr⟩ : ∃ fr, samA s (l.getD i default).t = smps fr (samO s (l.getD i default).t) := by
  unfold samA samO
  split
  ·exact ⟨false, rfl⟩
  ·exact ⟨true, rfl⟩
 rw [hfr] at hsa
 unfold C_chStarts
 simp (maxSteps := 1000000) (disch := omega) only [go_sem]
 refine CALL_det hsa (.inr ⟨rfl, rfl⟩) ?_
 simp (maxSteps := 1000000) (disch := omega) only [go_sem]
 refine CALL_det hac (.inl rfl) ?_
 simp (maxSteps := 1000000) (disch := omega) only [go_sem]
 clear hac hsa
 generalize hw' : winsA s (l.getD i default) = w at *
 refine ex_loop2 (fun j o => ch1St f t w j o) (fun j o => 0 ≤ j ∧ j ≤ w.length ∧ o = stA (w.take j.toNat) f t) (fun j _ => (w.length - j).toNat) 0 [] ⟨by omega, by omega, by simp [stA]⟩ rfl ?_
 rintro j o ⟨j0, j1, j2⟩
 unfold ch1St
 by_cases hj : j < w.length
 ·have ej := getD_map_at frC w j [] j0 hj
  have hl2 : o.length ≤ w.length := by rw [j2]; refine Nat.le_trans (stA_len _ _ _) ?_; rw [List.length_take]; omega
  have hsn := stA_snoc (w.take j.toNat) (w.getD j.toNat default) f t
  rw [← take_snocA w j j0 hj, ← j2] at hsn
  simp (maxSteps := 1000000) (disch := omega) only [go_sem]
  refine CALL_det (aIn_fc f t _) (.inl rfl) ?_
  by_cases hb : f ≤ (w.getD j.toNat default).1 ∧ (w.getD j.toNat default).1 < t
  ·rw [if_pos hb] at hsn
   rw [decide_eq_true hb]
   simp (maxSteps := 1000000) (disch := omega) only [go_sem]
   exact ⟨j + 1, o ++ [(w.getD j.toNat default).1], by simp [nRow, intC], ⟨by omega, by omega, hsn.symm⟩, by omega⟩
  ·rw [if_neg hb, List.append_nil] at hsn
   rw [decide_eq_false hb]
   simp (maxSteps := 1000000) (disch := omega) only [go_sem]
   exact ⟨j + 1, o, rfl, ⟨by omega, by omega, hsn.symm⟩, by omega⟩
 ·simp (maxSteps := 1000000) (disch := omega) only [go_sem]
  rw [j2, show j.toNat = w.length by omega, List.take_length]
theorem many_fc : FC Tryz.prog 63 none [iv 1, iv 50] (fun _ r => r = iv 0) := by
 refine fc_chMany (by simp +arith) ?_
 unfold C_chMany
 simp (maxSteps := 1000000) (disch := omega) only [go_sem]
 have ho := out_fc 1 1 5000
 rw [decide_eq_false (by omega)] at ho
 refine CALL_det ho (.inl rfl) ?_
 simp (maxSteps := 1000000) (disch := omega) only [go_sem]
 have ho := out_fc 50 1 604800000
 rw [decide_eq_false (by omega)] at ho
 refine CALL_det ho (.inl rfl) ?_
 simp (maxSteps := 1000000) (disch := omega) only [go_sem]
def chA (s : List Ser) (f t : Int) : List Alm → List ByteArray
 | [] => []
 | x :: r => (if stA (winsA s x) f t = [] then [] else [x.k]) ++ chA s f t r
theorem chA_snoc (s : List Ser) (f t : Int) (x : Alm) : ∀ l : List Alm, chA s f t (l ++ [x]) = chA s f t l ++ (if stA (winsA s x) f t = [] then [] else [x.k])
 | [] => by simp [chA]
 | y :: l => by rw [List.cons_append, chA, chA_snoc s f t x l, chA, List.append_assoc]
theorem chA_len (s : List Ser) (f t : Int) : ∀ l : List Alm, (chA s f t l).length ≤ l.length
 | [] => by simp [chA]
 | y :: l => by
  rw [chA, List.length_append, List.length_cons]
  have := chA_len s f t l
  split <;> simp <;> omega
theorem awNil_fc (l : List Alm) (s : List Ser) (h : AllOk l s []) (f t : Int) (hw : 0 ≤ f ∧ f ≤ t ∧ t ≤ 345686400000) :
  FC Tryz.prog 36 none [alms false l, sers false s, .one (.g (.slice none 0 0)), .ag [.g (.int .i64 f), .g (.int .i64 t)]] (fun _ r => r = iv 0) :=
 fc_nil (awFault_fc l s [] h f t hw) rfl fun i x y hx hy => by
  match i with
  | 0 => cases hx; cases hy; exact .inl rfl
  | 1 => cases hx; cases hy; exact .inl rfl
  | 2 => cases hx; cases hy; exact .inr ⟨rfl, false, 6, rfl⟩
  | 3 => cases hx; cases hy; exact .inl rfl
  | i + 4 => simp at hx
abbrev keyC (k : ByteArray) : List Cel := [.g (.string k)]
abbrev keyRow (l : List ByteArray) : Row := ⟨0, 9, 1, l.map keyC⟩
def ch2St (l : List Alm) (s : List Ser) (f t : Int) (i : Int) (o : List ByteArray) : AS := ⟨tabV [(1, sers false s), (3, iv 1), (4, iv 50), (7, .one (.bx 7 0)), (13, .one (.ow 13 0)), (30, alms false l), (31, iv l.length), (32, iv i)], tabO [(7, [.g (.int .i64 f), .g (.int .i64 t)])], tabO [(13, keyRow o)]⟩
theorem chat_fcm (l : List Alm) (s : List Ser) (h : AllOk l s []) (f t : Int) (hw : 0 ≤ f ∧ f ≤ t ∧ t ≤ 345686400000) (hwl : ∀ i : Nat, i < l.length → (winsA s (l.getD i default)).length ≤ 1000000) :
  FCM Tryz.prog 17 ⟨[], []⟩ [alms false l, sers false s, .ag [.g (.int .i64 f), .g (.int .i64 t)], iv 1, iv 50] (fun H r => H = ⟨[], [(13, keyRow (chA s f t l))]⟩ ∧ r = .tu [.one (.ow 13 0), iv 0]) := by
 refine fcm_chat (K := ⟨[], [], [13]⟩) (by simp +arith) (by simp) (by simp) ?_
 have hl := h.al.len
 unfold C_chat
 simp (maxSteps := 1000000) (disch := omega) only [go_sem]
 refine CALL_det (awNil_fc l s h f t hw) (.inl rfl) ?_
 simp (maxSteps := 1000000) (disch := omega) only [go_sem]
 refine CALL_det many_fc (.inl rfl) ?_
 simp (maxSteps := 1000000) (disch := omega) only [go_sem]
 refine CALL_det (first_fc false [0, 0] (by simp)) (.inl rfl) ?_
 rw [show orSp [0, 0] = 0 from rfl]
 simp (maxSteps := 1000000) (disch := omega) only [go_sem]
 refine ex_loop2 (fun i o => ch2St l s f t i o) (fun i o => 0 ≤ i ∧ i ≤ l.length ∧ o = chA s f t (l.take i.toNat)) (fun i _ => (l.length - i).toNat) 0 [] ⟨by omega, by omega, by simp [chA]⟩ rfl ?_
 rintro i o ⟨i0, i1, i2⟩
 unfold ch2St
 by_cases hi : i < l.length
 ·have ei := getD_map_at almS l i [] i0 hi
  have hst := starts_fc l s h.al h.se i.toNat (by omega) f t (hwl i.toNat (by omega))
  have hl2 : o.length ≤ l.length := by rw [i2]; refine Nat.le_trans (chA_len _ _ _ _) ?_; rw [List.length_take]; omega
  have hsn := chA_snoc s f t (l.getD i.toNat default) (l.take i.toNat)
  rw [← take_snocA l i i0 hi, ← i2] at hsn
  have hal := stA_len (winsA s (l.getD i.toNat default)) f t
  have hal2 := hwl i.toNat (by omega)
  generalize hA : stA (winsA s (l.getD i.toNat default)) f t = A at *
  rw [almS_eq] at hst
  simp (maxSteps := 1000000) (disch := omega) only [go_sem]
  refine CALL_det hst (.inl rfl) ?_
  simp (maxSteps := 1000000) (disch := omega) only [go_sem]
  refine ex_rnd 2 ?_
  by_cases hn : A = []
  ·subst hn
   simp (maxSteps := 1000000) (disch := omega) only [go_sem]
   rw [if_pos rfl, List.append_nil] at hsn
   exact ⟨i + 1, o, rfl, ⟨by omega, by omega, hsn.symm⟩, by omega⟩
  ·have hp : 0 < A.length := List.length_pos_iff.2 hn
   have ea := getD_map_at intC A (1 - 1) [] (by omega) (by omega)
   have hd : IntKind.i64.wrap (A.getD (1 - 1 : Int).toNat default - A.getD (1 - 1 - 1 + 1 : Int).toNat default) < 50 := by
    rw [show (1 - 1 - 1 + 1 : Int) = 1 - 1 by omega, Int.sub_self]; decide
   rw [if_neg hn] at hsn
   simp (maxSteps := 1000000) (disch := omega) only [go_sem]
   exact ⟨i + 1, o ++ [(l.getD i.toNat default).k], by simp [keyRow, keyC], ⟨by omega, by omega, hsn.symm⟩, by omega⟩
 ·simp (maxSteps := 1000000) (disch := omega) only [go_sem]
  rw [i2, show i.toNat = l.length by omega, List.take_length]
end Go.Proofs.YtcagelfmngmocaaGreatDoor

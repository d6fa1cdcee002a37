/-
 The reference reads transfers, line after line: the same as the program reads.
-/
import Derived.Test.YtodmofhehabmgaaGreatDoorTtx
import Derived.Test.YtodmofhehabmgaaGreatDoorRin
namespace Go.Proofs.YtodmofhehabmgaaGreatDoor
open Go Go.Ai Go.Proofs
set_option linter.unusedSimpArgs false
set_option linter.unusedVariables false
set_option maxHeartbeats 4000000
def C_cutL : AC := (.seq (.reg false [gI 4 (.mv (.v (.string (ByteArray.mk #[])))),gI 5 (.mv (.v (.string (ByteArray.mk #[])))),gI 6 (.mv (.v (.bool false)))] (kP [0,1] [] []))
 (.seq (.seq (.reg false [gM 8 0,gM 9 1,gI 10 (.call (.f 182) [(.t 8),(.t 9)]),gM 7 10] (kP [0,1,7] [] []))
 (.seq (.reg false [gM 11 7,gI 12 (.bin .geq (.t 11) (oI 0))] (kP [0,1,7,12] [] []))
 (.cond (.t 12)
 (.seq (.reg true [gM 13 0,gM 14 7,gI 15 (.ssub (.t 13) none (some (.t 14))),gM 16 0,gM 17 7,gM 18 1,gI 19 (.slen (.t 18)),gI 20 (.bin .add (.t 17) (.t 19)),gI 21 (.ssub (.t 16) (some (.t 20)) none),gM 4 15,gM 5 21,gI 6 (.mv (.v (.bool true)))] (kP [4,5,6] [] []))
 .ret)
 .skip)))
 (.seq (.reg false [gM 22 0,gM 4 22,gI 5 (.mv (.v (.string (ByteArray.mk #[])))),gI 6 (.mv (.v (.bool false)))] (kP [4,5,6] [] []))
 .ret)))
theorem fc_cutL : FcT Tryz.prog 144 Tryz.f144 C_cutL [.t 4, .t 5, .t 6] := fc_mk [aN [0,1] [] [],aN [0,1,7] [] [],aN [0,1,7,12] [] [],aN [4,5,6] [] [],aN [4,5,6] [] []] Tryz.func144 (by kernel_rfl)
def C_cutF : AC := (.seq (.reg false [gI 4 (.mv (.v (.string (ByteArray.mk #[])))),gI 5 (.mv (.v (.string (ByteArray.mk #[])))),gI 6 (.mv (.v (.bool false)))] (kP [0,1] [] []))
 (.seq (.reg false [gM 7 0,gM 8 1,gI 9 (.call (.f 144) [(.t 7),(.t 8)]),gI 10 (.extr (.t 9) 0),gI 11 (.extr (.t 9) 1),gI 12 (.extr (.t 9) 2),gM 4 10,gM 5 11,gM 6 12] (kP [4,5,6] [] []))
 .ret))
theorem fc_cutF : FcT Tryz.prog 105 Tryz.f105 C_cutF [.t 4, .t 5, .t 6] := fc_mk [aN [0,1] [] [],aN [4,5,6] [] []] Tryz.func105 (by kernel_rfl)
def C_rrdT : AC := (.seq (.reg false [gI 3 (.mv (.v (.bool false)))] (kP [0,1,1000001] [1000001] [1000002]))
 (.seq (.reg false [gM 7 0,gI 8 (.call (.f 76) [(.t 7),(.v (.string (ByteArray.mk #[32])))]),gM 4 8] (kP [1,4,1000001] [1000001] [1000002]))
 (.seq (.seq (.reg false [gM 9 4,gI 10 (.call (.f 39) [(.t 9),(.v (.string (ByteArray.mk #[])))]),gM 11 10,gG 12 11 false (.mv (.t 4)),gG 13 11 false (.len (.t 12)),gG 14 11 false (.bin .neq (.t 13) (oI 3)),gI 15 (.pick (.t 11) (.v (.bool true)) (.t 14))] (kP [1,4,15,1000001] [1000001] [1000002]))
 (.cond (.t 15)
 (.seq (.reg false [gI 3 (.mv (.v (.bool false)))] (kP [3] [1000001] [1000002]))
 .ret)
 .skip))
 (.seq (.reg false [gM 17 4,gI 18 (.iadr 1 (.t 17) (oI 2)),gI 19 (.load false 1 (.t 18)),gI 20 (.call (.f 77) [(.t 19),(oI 15)]),gM 16 20,gI 21 (.extr (.t 16) 0),gI 22 (.extr (.t 16) 1),gM 5 21,gM 6 22] (kP [1,4,5,6,1000001] [1000001] [1000002]))
 (.seq (.reg true [gI 23 (.load false 1 (.t 1)),gM 24 4,gI 25 (.iadr 1 (.t 24) (oI 0)),gI 26 (.load false 1 (.t 25)),gM 27 4,gI 28 (.iadr 1 (.t 27) (oI 1)),gI 29 (.load false 1 (.t 28)),gM 30 5,gI 31 (.build [(.string (ByteArray.mk #[])),(.string (ByteArray.mk #[])),(.int .i64 (0))] [(0,1,(.t 26)),(1,1,(.t 29)),(2,1,(.t 30))]),gI 32 (.bslice 3 1 [(.t 31)]),gI 33 (.append 54 3 40 (.t 23) (.t 32)),gN (.store 1 (.t 1) (.t 33))] (kP [6] [1000001] [1000002]))
 (.seq (.reg false [gM 34 6,gM 3 34] (kP [3] [1000001] [1000002]))
 .ret))))))
theorem fcm_rrdT : FmT Tryz.prog 75 Tryz.f75 C_rrdT [.t 3] := fcm_mk [aN [0,1,1000001] [1000001] [1000002],aN [1,4,1000001] [1000001] [1000002],aN [1,4,15,1000001] [1000001] [1000002],aN [3] [1000001] [1000002],aN [1,4,5,6,1000001] [1000001] [1000002],aN [6] [1000001] [1000002],aN [3] [1000001] [1000002]] Tryz.func75 (by kernel_rfl)
def C_rlinT : AC := (.seq (.reg false [gI 4 (.mv (oI 0)),gI 5 (.mv (.v (.bool false)))] (kP [0,1,1000001] [1000001] [1000002]))
 (.seq (.seq (.reg false [gI 6 (.mv (oI 0))] (kP [0,1,6,1000001] [1000001] [1000002]))
 (.block 0 (.loop (.seq (.seq (.reg false [gM 10 0,gI 11 (.bin .neq (.t 10) (.v (.string (ByteArray.mk #[]))))] (kP [0,1,6,11,1000001] [1000001] [1000002]))
 (.cond (.t 11)
 .skip
 (.exit 0)))
 (.seq (.block 1 (.seq (.reg false [gM 15 0,gI 16 (.call (.f 105) [(.t 15),(.v (.string (ByteArray.mk #[10])))]),gM 14 16,gI 17 (.extr (.t 14) 0),gI 18 (.extr (.t 14) 1),gI 19 (.extr (.t 14) 2),gM 7 17,gM 8 18,gM 9 19] (kP [1,6,7,8,9,1000001] [1000001] [1000002]))
 (.seq (.seq (.reg false [gM 20 9,gI 21 (.un .not (.t 20)),gM 22 21,gG 23 22 false (.mv (.t 1)),gG 24 22 false (.mv (.t 7)),gG 25 22 false (.callm (.t 23) [(.t 24)] ⟨[1000001],[1000002],[1000001],[1000002],[]⟩),gG 26 22 false (.un .not (.t 25)),gI 27 (.pick (.t 22) (.v (.bool true)) (.t 26))] (kP [1,6,8,27,1000001] [1000001] [1000002]))
 (.cond (.t 27)
 (.seq (.reg false [gM 28 6,gM 4 28,gI 5 (.mv (.v (.bool false)))] (kP [4,5] [1000001] [1000002]))
 .ret)
 .skip))
 (.reg false [gM 29 8,gM 0 29] (kP [0,1,6,1000001] [1000001] [1000002])))))
 (.reg false [gM 12 6,gI 13 (.bin .add (.t 12) (oI 1)),gM 6 13] (kP [0,1,6,1000001] [1000001] [1000002])))))))
 (.seq (.reg false [gI 4 (.mv (oI 0)),gI 5 (.mv (.v (.bool true)))] (kP [4,5] [1000001] [1000002]))
 .ret)))
theorem fcm_rlinT : FmT Tryz.prog 74 Tryz.f74 C_rlinT [.t 4, .t 5] := fcm_mk [aN [0,1,1000001] [1000001] [1000002],aN [0,1,6,1000001] [1000001] [1000002],aN [0,1,6,11,1000001] [1000001] [1000002],aN [1,6,7,8,9,1000001] [1000001] [1000002],⟨(kP [1,6,8,27,1000001] [1000001] [1000002]),[],[],[],[(25,⟨[1000001],[1000002],[1000001],[1000002],[]⟩)]⟩,aN [4,5] [1000001] [1000002],aN [0,1,6,1000001] [1000001] [1000002],aN [0,1,6,1000001] [1000001] [1000002],aN [4,5] [1000001] [1000002]] Tryz.func74 (by kernel_rfl)
def C_rtRead : AC := (.seq (.reg false [gI 2 (.mv (.v (.slice none 0 0))),gI 3 (.mv (oI 0)),gI 4 (.mv (oI 0))] (kP [0,5] [5] []))
 (.seq (.seq (.reg false [gM 9 0,gI 10 (.slen (.t 9)),gI 11 (.bin .gtr (.t 10) (oI 200000))] (kP [0,5,11] [5] []))
 (.cond (.t 11)
 (.seq (.seq (.reg false [gI 2 (.mv (.v (.slice none 0 0))),gI 3 (.mv (oI 0)),gI 4 (.mv (oI 2))] (kP [2,3,4,5] [5] []))
 (.ty 2 3))
 .ret)
 .skip))
 (.seq (.seq (.reg false [gI 5 (.alloc [(.slice none 0 0)])] (kP [0,5] [5] []))
 (.ownb 5 0 5 54 3))
 (.seq (.reg false [gM 13 0,gI 14 (.mkfn 75 [(.t 5)]),gI 15 (.callm (.f 74) [(.t 13),(.t 14)] ⟨[5],[5],[5],[5],[]⟩),gM 12 15,gI 16 (.extr (.t 12) 0),gI 17 (.extr (.t 12) 1),gM 6 16,gM 7 17] (kP [5,6,7] [5] []))
 (.seq (.seq (.reg false [gM 18 7,gI 19 (.un .not (.t 18))] (kP [5,6,19] [5] []))
 (.cond (.t 19)
 (.seq (.seq (.reg false [gM 20 6,gI 2 (.mv (.v (.slice none 0 0))),gM 3 20,gI 4 (.mv (oI 9))] (kP [2,3,4,5] [5] []))
 (.ty 2 3))
 .ret)
 .skip))
 (.seq (.seq (.reg false [gI 21 (.load false 1 (.t 5)),gI 22 (.call (.f 9) [(.t 21)]),gM 8 22] (kP [5,8] [5] []))
 (.seq (.reg false [gM 23 8,gI 24 (.bin .neq (.t 23) (oI 0))] (kP [5,8,24] [5] []))
 (.cond (.t 24)
 (.seq (.seq (.reg false [gM 25 8,gI 2 (.mv (.v (.slice none 0 0))),gI 3 (.mv (oI 0)),gM 4 25] (kP [2,3,4,5] [5] []))
 (.ty 2 3))
 .ret)
 .skip)))
 (.seq (.reg false [gI 26 (.load false 1 (.t 5)),gM 2 26,gI 3 (.mv (oI 0)),gI 4 (.mv (oI 0))] (kP [2,3,4,5] [5] []))
 .ret)))))))
theorem fc_rtRead : FcT Tryz.prog 27 Tryz.f27 C_rtRead [.t 2, .t 3, .t 4] := fc_mk [aN [0,5] [5] [],aN [0,5,11] [5] [],⟨(kP [2,3,4,5] [5] []),[],[],[(2,3)],[]⟩,⟨(kP [0,5] [5] []),[(1000005,54,3)],[],[],[]⟩,⟨(kP [5,6,7] [5] []),[],[],[],[(15,⟨[5],[5],[5],[5],[]⟩)]⟩,aN [5,6,19] [5] [],⟨(kP [2,3,4,5] [5] []),[],[],[(2,3)],[]⟩,aN [5,8] [5] [],aN [5,8,24] [5] [],⟨(kP [2,3,4,5] [5] []),[],[],[(2,3)],[]⟩,aN [2,3,4,5] [5] []] Tryz.func27 (by kernel_rfl)
def cutA (t : List UInt8) : List UInt8 := t.takeWhile fun c => c != 10
def cutZ (t : List UInt8) : List UInt8 := (t.dropWhile fun c => c != 10).tail
theorem cutL_is : ∀ {t : List UInt8}, (10 : UInt8) ∈ t → t = cutA t ++ 10 :: cutZ t ∧ (10 : UInt8) ∉ cutA t
 | [], h => by simp at h
 | c :: t, h => by
  unfold cutA cutZ
  by_cases e : c = 10
  ·subst e; simp
  ·have h2 : (10 : UInt8) ∈ t := by
    rcases List.mem_cons.1 h with r | r
    ·exact absurd r.symm e
    ·exact r
   obtain ⟨h3, h4⟩ := cutL_is h2
   have hc : (c != 10) = true := by simpa using e
   rw [List.takeWhile_cons, if_pos hc, List.dropWhile_cons, if_pos hc]
   refine ⟨by rw [List.cons_append]; exact congrArg _ h3, fun h5 => ?_⟩
   rcases List.mem_cons.1 h5 with r | r
   ·exact e r.symm
   ·exact h4 r
theorem cut_len {t : List UInt8} (h : (10 : UInt8) ∈ t) : (cutA t).length + (cutZ t).length + 1 = t.length := by
 have := congrArg List.length (cutL_is h).1
 rw [List.length_append, List.length_cons] at this
 omega
theorem lines_cut {t : List UInt8} (h : (10 : UInt8) ∈ t) : linesA t = (bS (cutA t) :: (linesA (cutZ t)).1, (linesA (cutZ t)).2) ∧ ((linesA (cutZ t)).2 = false → (linesA (cutZ t)).1 ≠ []) := by
 obtain ⟨h1, h2⟩ := cutL_is h
 generalize cutA t = x at *
 generalize cutZ t = r at *
 subst h1
 unfold linesA
 rw [if_neg (by simp)]
 by_cases hr : r = []
 ·subst hr
  rw [if_pos rfl, if_pos (by simp), List.dropLast_concat, spl_one 10 x h2]
  exact ⟨rfl, by simp⟩
 ·have hl : (x ++ 10 :: r).getLast? = r.getLast? := by
   rcases List.eq_nil_or_concat r with rfl | ⟨r', z, rfl⟩
   ·exact absurd rfl hr
   ·rw [List.concat_eq_append, show x ++ 10 :: (r' ++ [z]) = (x ++ 10 :: r') ++ [z] by simp, List.getLast?_append, List.getLast?_append, List.getLast?_append]
    rfl
  rw [if_neg hr, hl]
  by_cases hn : r.getLast? = some 10
  ·rw [if_pos hn, if_pos hn, List.dropLast_append_of_ne_nil (by simp), List.dropLast_cons_of_ne_nil hr, spl_app 10 x _ h2]
   exact ⟨rfl, by simp⟩
  ·rw [if_neg hn, if_neg hn, spl_app 10 x r h2]
   exact ⟨rfl, fun _ => by simpa using spl_ne 10 r⟩
theorem lines_last {t : List UInt8} (h : (10 : UInt8) ∉ t) (h0 : t ≠ []) : linesA t = ([bS t], false) := by
 unfold linesA
 rw [if_neg h0, if_neg (fun e => h (List.mem_of_getLast? e)), spl_one 10 t h]
 rfl
/-- A line of a transfer, as the reference reads it. -/
def trLn (s : ByteArray) : Option Trf × Bool := if wd3 (wds s) = true then (some ⟨(wds s).getD 0 emp, (wds s).getD 1 emp, rintN ((wds s).getD 2 emp)⟩, noB ((wds s).getD 2 emp)) else (none, false)
theorem trLn_is (s : ByteArray) : (trLn s).2 = (tlL s).2 ∧ ((trLn s).2 = true → (trLn s).1 = (tlL s).1) := by
 unfold trLn tlL
 by_cases h : wd3 (wds s) = true
 ·rw [if_pos h, if_pos h]
  refine ⟨rfl, fun h2 => ?_⟩
  simp only at h2 ⊢
  rw [rint_ok h2]
  unfold rdW
  first | rfl | (rw [if_pos h2])
 ·rw [if_neg h, if_neg h]
  exact ⟨rfl, fun h2 => by cases h2⟩
/-- Transfers, line by line. -/
def rfT : Nat → List UInt8 → Int → List Trf → List Trf × Int × Bool
 | 0, _, i, o => (o, i, false)
 | n + 1, t, i, o => if t = [] then (o, 0, true) else if (10 : UInt8) ∉ t then (o, i, false) else if (trLn (bS (cutA t))).2 = true then rfT n (cutZ t) (i + 1) (o ++ (trLn (bS (cutA t))).1.toList) else (o ++ (trLn (bS (cutA t))).1.toList, i, false)
theorem rfT_is : ∀ (n : Nat) (t : List UInt8) (i : Int) (o : List Trf), t.length < n → (rfT n t i o).2 = (eachT (linesA t).2 (linesA t).1 i o).2 ∧ ((rfT n t i o).2.2 = true → (rfT n t i o).1 = (eachT (linesA t).2 (linesA t).1 i o).1)
 | 0, t, i, o, h => by omega
 | n + 1, t, i, o, h => by
  rw [rfT]
  by_cases h0 : t = []
  ·subst h0
   rw [if_pos rfl]
   exact ⟨rfl, fun _ => rfl⟩
  rw [if_neg h0]
  by_cases h1 : (10 : UInt8) ∉ t
  ·rw [if_pos h1, lines_last h1 h0]
   exact ⟨rfl, by simp⟩
  ·rw [if_neg h1]
   have h1 : (10 : UInt8) ∈ t := Classical.not_not.1 h1
   obtain ⟨e1, e2⟩ := lines_cut h1
   have hl := cut_len h1
   rw [e1]
   simp only
   have hc : ¬((!(linesA (cutZ t)).2 && decide ((linesA (cutZ t)).1.length = 0)) = true) := by
    cases hb : (linesA (cutZ t)).2 with
    | true => simp
    | false =>
     have := e2 hb
     have : (linesA (cutZ t)).1.length ≠ 0 := fun h => this (List.eq_nil_of_length_eq_zero h)
     simp [this]
   rw [eachT, if_neg hc]
   obtain ⟨k1, k2⟩ := trLn_is (bS (cutA t))
   by_cases h3 : (trLn (bS (cutA t))).2 = true
   ·rw [if_pos h3, if_pos (k1.symm.trans h3), k2 h3]
    exact rfT_is n _ _ _ (by omega)
   ·rw [if_neg h3, if_neg (fun h => h3 (k1.trans h))]
    exact ⟨rfl, by simp⟩
def rtF (t : List UInt8) : List Trf × Int × Int := if t.length > 200000 then ([], 0, 2) else if (rfT (t.length + 1) t 0 []).2.2 = false then ([], (rfT (t.length + 1) t 0 []).2.1, 9) else if tfF (rfT (t.length + 1) t 0 []).1 ≠ 0 then ([], 0, tfF (rfT (t.length + 1) t 0 []).1) else ((rfT (t.length + 1) t 0 []).1, 0, 0)
theorem rtF_is (t : List UInt8) : rtF t = ttF t := by
 unfold rtF ttF ttT
 obtain ⟨h1, h2⟩ := rfT_is (t.length + 1) t 0 [] (by omega)
 by_cases c0 : t.length > 200000
 ·rw [if_pos c0, if_pos c0]
 rw [if_neg c0, if_neg c0]
 generalize rfT (t.length + 1) t 0 [] = A at *
 generalize eachT (linesA t).2 (linesA t).1 0 [] = B at *
 obtain ⟨a1, a2, a3⟩ := A
 obtain ⟨b1, b2, b3⟩ := B
 simp only [Prod.mk.injEq] at h1 h2 ⊢
 obtain ⟨rfl, rfl⟩ := h1
 cases a3 with
 | false => rfl
 | true =>
  have := h2 rfl
  subst this
  simp only [ct_tf]
theorem idxL_fc (s : ByteArray) (c : UInt8) : FC Tryz.prog 182 none [sv s, sv ⟨#[c]⟩] (fun _ r => r = iv (Lib.indexByte s.data.toList c)) :=
 fc_data [.string s, .string ⟨#[c]⟩] ⟨Tryz.f182, Tryz.func182, by kernel_rfl, by kernel_rfl⟩ rfl fun w => Any.stringslite_Index_one { Llays221 with } s c w
theorem idx_cut : ∀ (t : List UInt8), Lib.indexByte t 10 = if (10 : UInt8) ∈ t then ((cutA t).length : Int) else -1
 | [] => rfl
 | b :: t => by
  have ih := idx_cut t
  rw [Lib.indexByte]
  by_cases e : b = 10
  ·subst e
   rw [if_pos (by rfl), if_pos (by simp)]
   unfold cutA; simp
  ·rw [if_neg (by simpa using e), ih]
   have hb : (b != 10) = true := by simpa using e
   by_cases h : (10 : UInt8) ∈ t
   ·have hl : (cutA (b :: t)).length = (cutA t).length + 1 := by unfold cutA; rw [List.takeWhile_cons, if_pos hb, List.length_cons]
    rw [if_pos h, if_pos (List.mem_cons_of_mem _ h), if_neg (by simp), hl]
    omega
   ·have hm : (10 : UInt8) ∉ b :: t := fun h2 => by
     rcases List.mem_cons.1 h2 with r | r
     ·exact e r.symm
     ·exact h r
    rw [if_neg h, if_neg hm, if_pos (by rfl)]
def ctS (s : ByteArray) : Val := if (10 : UInt8) ∈ s.data.toList then .tu [sv (bS (cutA s.data.toList)), sv (bS (cutZ s.data.toList)), bv true] else .tu [sv s, sv emp, bv false]
theorem cut_fc (s : ByteArray) (hs : s.size ≤ 1000000) : FC Tryz.prog 105 none [sv s, sv ⟨#[10]⟩] (fun _ r => r = ctS s) := by
 have hL : FC Tryz.prog 144 none [sv s, sv ⟨#[10]⟩] (fun _ r => r = ctS s) := by
  refine fc_cutL (by simp +arith) ?_
  unfold C_cutL ctS
  have hi := idxL_fc s 10
  rw [idx_cut] at hi
  by_cases h : (10 : UInt8) ∈ s.data.toList
  ·rw [if_pos h] at hi ⊢
   have hl := cut_len h
   rw [← szL] at hl
   obtain ⟨e1, _⟩ := cutL_is h
   have key : ∀ (l A Z : List UInt8), l = A ++ 10 :: Z → A = l.take A.length ∧ Z = l.drop (A.length + 1) := by
    rintro l A Z rfl
    simp
   have h10 : (#[(10 : UInt8)]).size = 1 := rfl
   have hA : bS (cutA s.data.toList) = s.extract 0 (cutA s.data.toList).length := ba_ext (by
    rw [ext_list, bS_list, List.drop_zero]
    exact (key _ _ _ e1).1)
   have hZ : bS (cutZ s.data.toList) = s.extract ((cutA s.data.toList).length + 1) s.size := ba_ext (by
    rw [ext_list, bS_list, szL, List.take_length]
    exact (key _ _ _ e1).2)
   rw [hA, hZ]
   generalize (cutA s.data.toList).length = n at *
   have hnn : ((n : Int) + ((#[(10 : UInt8)]).size : Nat)).toNat = n + 1 := by omega
   simp (maxSteps := 1000000) (disch := (first | omega | assumption)) only [go_sem]
   refine CALL_det hi (.inl rfl) ?_
   simp (maxSteps := 1000000) (disch := (first | omega | assumption)) only [go_sem]
   rw [hnn]
  ·rw [if_neg h] at hi ⊢
   simp (maxSteps := 1000000) (disch := (first | omega | assumption)) only [go_sem]
   refine CALL_det hi (.inl rfl) ?_
   simp (maxSteps := 1000000) (disch := (first | omega | assumption)) only [go_sem]
 refine fc_cutF (by simp +arith) ?_
 unfold C_cutF
 simp (maxSteps := 1000000) (disch := (first | omega | assumption)) only [go_sem]
 unfold ctS at hL ⊢
 by_cases h : (10 : UInt8) ∈ s.data.toList
 ·rw [if_pos h] at hL ⊢
  refine CALL_det hL (.inl rfl) ?_
  simp (maxSteps := 1000000) (disch := (first | omega | assumption)) only [go_sem]
 ·rw [if_neg h] at hL ⊢
  refine CALL_det hL (.inl rfl) ?_
  simp (maxSteps := 1000000) (disch := (first | omega | assumption)) only [go_sem]
theorem emp_mem_no {w : List ByteArray} (h : emp ∉ w) : (w.all fun s => decide (s ≠ emp)) = true := by
 rw [List.all_eq_true]
 intro s hs
 exact decide_eq_true fun e => h (e ▸ hs)
theorem emp_mem_yes {w : List ByteArray} (h : emp ∈ w) : (w.all fun s => decide (s ≠ emp)) = false := by
 rw [List.all_eq_false]
 exact ⟨emp, h, by simp⟩
theorem rrdT_fcm (s : ByteArray) (hs : s.size ≤ 900000) (o : List Trf) (ho : o.length ≤ 1000000) : FCM Tryz.prog 75 (teH o) [sv s, .one (.bx 1000001 0)] (fun H r => H = teH (o ++ (trLn s).1.toList) ∧ r = bv (trLn s).2) := by
 refine fcm_rrdT (K := ⟨[], [1000001], [1000002]⟩) (by simp +arith) (by simp [XK]) (by simp [XK]) ?_
 have hc := split_fc s 32 (by omega)
 rw [splL_eq, show (spl 32 s.data.toList).map bS = wds s from rfl] at hc
 have hws := wds_size s
 have hlw : (wds s).length ≤ 900001 := by
  have := spl_len 32 s.data.toList
  rw [← szL] at this
  unfold wds; rw [List.length_map]; omega
 unfold trLn
 generalize wds s = w at hc hws hlw ⊢
 have hk := containsK_fc w emp (by omega)
 unfold C_rrdT
 by_cases he : emp ∈ w
 ·have h3 : wd3 w = false := by unfold wd3; rw [emp_mem_yes he, Bool.and_false]
  rw [h3, if_neg (by simp)]
  rw [decide_eq_true he] at hk
  simp (maxSteps := 1000000) (disch := (first | omega | assumption)) only [go_sem]
  refine CALL_det hc (.inl rfl) ?_
  simp (maxSteps := 1000000) (disch := (first | omega | assumption)) only [go_sem]
  refine CALL_det hk (.inl rfl) ?_
  simp (maxSteps := 1000000) (disch := (first | omega | assumption)) only [go_sem]
  simp [teH]
 ·rw [decide_eq_false he] at hk
  by_cases hl : w.length = 3
  ·have h3 : wd3 w = true := by unfold wd3; rw [emp_mem_no he, decide_eq_true hl]; rfl
   rw [h3, if_pos rfl]
   match w, hl with
   | [w0, w1, w2], _ =>
    have hn := rint_fc w2 (by have := hws w2 (by simp); omega)
    simp only [strs, List.map_cons, List.map_nil, strC_eq] at hc hk
    simp only [List.getD_cons_succ, List.getD_cons_zero, Option.toList_some]
    simp (maxSteps := 1000000) (disch := (first | omega | assumption)) only [go_sem]
    refine CALL_det hc (.inl rfl) ?_
    simp (maxSteps := 1000000) (disch := (first | omega | assumption)) only [go_sem]
    refine CALL_det hk (.inl rfl) ?_
    simp (maxSteps := 1000000) (disch := (first | omega | assumption)) only [go_sem]
    refine CALL_det hn (.inl rfl) ?_
    simp (maxSteps := 1000000) (disch := (first | omega | assumption)) only [go_sem]
    simp [teH, trC_eq]
  ·have h3 : wd3 w = false := by unfold wd3; rw [decide_eq_false hl, Bool.false_and]
   rw [h3, if_neg (by simp)]
   have hl2 : ¬(w.length : Int) = 3 := by omega
   simp (maxSteps := 1000000) (disch := (first | omega | assumption)) only [go_sem]
   refine CALL_det hc (.inl rfl) ?_
   simp (maxSteps := 1000000) (disch := (first | omega | assumption)) only [go_sem]
   refine CALL_det hk (.inl rfl) ?_
   simp (maxSteps := 1000000) (disch := (first | omega | assumption)) only [go_sem]
   simp [teH]
def lnTt (s : ByteArray) (i : Int) (o : List Trf) (v : Nat) : AS := ⟨tabV [(0, sv s), (1, .one (.fn 75 [.bx 1000001 0])), (6, iv i), (1000001, .any)], tabO [(1000001, [.ow 1000002 v])], tabO [(1000002, ⟨v, 54, 3, o.map trC⟩)]⟩
theorem cutZ_size {t : List UInt8} (h : (10 : UInt8) ∈ t) : (bS (cutA t)).size + (bS (cutZ t)).size + 1 = t.length := by
 have := cut_len h
 rw [bS_size, bS_size]; omega
set_option maxHeartbeats 12000000 in
theorem rlinT_fcm (t : ByteArray) (ht : t.size ≤ 200000) : FCM Tryz.prog 74 (teH []) [sv t, .one (.fn 75 [.bx 1000001 0])] (fun H r => H = teH (rfT (t.data.toList.length + 1) t.data.toList 0 []).1 ∧ r = .tu [iv (rfT (t.data.toList.length + 1) t.data.toList 0 []).2.1, bv (rfT (t.data.toList.length + 1) t.data.toList 0 []).2.2]) := by
 refine fcm_rlinT (K := ⟨[], [1000001], [1000002]⟩) (by simp +arith) (by simp [XK]) (by simp [XK]) ?_
 generalize hR : rfT (t.data.toList.length + 1) t.data.toList 0 [] = R
 unfold C_rlinT
 simp (maxSteps := 1000000) (disch := (first | omega | assumption)) only [go_sem]
 refine ex_loop4 (fun s i o v => lnTt s i o v) (fun s i o v => 0 ≤ i ∧ v ≤ 1 ∧ (o.length : Int) ≤ i ∧ i + s.size ≤ 200000 ∧ ∃ n, s.size < n ∧ rfT n s.data.toList i o = R) (fun s _ _ _ => s.size) t 0 [] 0 ⟨by omega, by omega, by simp, by omega, t.data.toList.length + 1, by have := szL t; omega, hR⟩ rfl ?_
 rintro s i o v ⟨g1, g2, g3, g4, n, g5, g6⟩
 unfold lnTt
 obtain ⟨n, rfl⟩ : ∃ m, n = m + 1 := ⟨n - 1, by omega⟩
 rw [rfT] at g6
 by_cases c0 : s = emp
 ·subst c0
  rw [if_pos (show emp.data.toList = [] from rfl)] at g6
  subst g6
  have c0' : ¬¬emp = emp := fun h => h rfl
  simp (maxSteps := 1000000) (disch := (first | omega | assumption)) only [go_sem]
 ·have hn : ¬s.data.toList = [] := fun h => c0 (ba_ext (by rw [h]))
  rw [if_neg hn] at g6
  have hc := cut_fc s (by omega)
  unfold ctS at hc
  by_cases c1 : (10 : UInt8) ∈ s.data.toList
  ·rw [if_neg (fun h => h c1)] at g6
   rw [if_pos c1] at hc
   have hz := cutZ_size c1
   rw [← szL] at hz
   have hx := rrdT_fcm (bS (cutA s.data.toList)) (by omega) o (by omega)
   generalize hy : trLn (bS (cutA s.data.toList)) = Y at *
   obtain ⟨y, b⟩ := Y
   simp only at hx g6
   have hyl : y.toList.length ≤ 1 := by cases y <;> simp
   cases b with
   | true =>
    rw [if_pos rfl] at g6
    generalize cutA s.data.toList = A at *
    generalize cutZ s.data.toList = Z at *
    simp (maxSteps := 1000000) (disch := (first | omega | assumption)) only [go_sem]
    refine CALL_det hc (.inl rfl) ?_
    simp (maxSteps := 1000000) (disch := (first | omega | assumption)) only [go_sem]
    refine ⟨rfl, CALLM_det hx ⟨rfl, rfl⟩ ?_⟩
    simp (maxSteps := 1000000) (disch := (first | omega | assumption)) only [go_sem]
    exact ⟨bS Z, i + 1, o ++ y.toList, 1, rfl, ⟨by omega, by omega, by simp; omega, by omega, n, by omega, by rw [bS_list]; exact g6⟩, by omega⟩
   | false =>
    rw [if_neg (by simp)] at g6
    subst g6
    generalize cutA s.data.toList = A at *
    generalize cutZ s.data.toList = Z at *
    simp (maxSteps := 1000000) (disch := (first | omega | assumption)) only [go_sem]
    refine CALL_det hc (.inl rfl) ?_
    simp (maxSteps := 1000000) (disch := (first | omega | assumption)) only [go_sem]
    refine ⟨rfl, CALLM_det hx ⟨rfl, rfl⟩ ?_⟩
    simp (maxSteps := 1000000) (disch := (first | omega | assumption)) only [go_sem]
  ·rw [if_pos c1] at g6
   rw [if_neg c1] at hc
   subst g6
   simp (maxSteps := 1000000) (disch := (first | omega | assumption)) only [go_sem]
   refine CALL_det hc (.inl rfl) ?_
   simp (maxSteps := 1000000) (disch := (first | omega | assumption)) only [go_sem]
set_option maxHeartbeats 12000000 in
theorem rtRead_fc (t : ByteArray) (ht : t.size ≤ 1000000) : FC Tryz.prog 27 none [sv t] (fun _ r => r = .tu [trs true (ttF t.data.toList).1, iv (ttF t.data.toList).2.1, iv (ttF t.data.toList).2.2]) := by
 refine fc_rtRead (by simp +arith) ?_
 rw [← rtF_is]
 unfold C_rtRead rtF
 have hsz : t.data.toList.length = t.size := (szL t).symm
 by_cases c1 : t.data.toList.length > 200000
 ·rw [if_pos c1]
  rw [hsz] at c1
  simp (maxSteps := 1000000) (disch := (first | omega | assumption)) only [go_sem]
  rfl
 rw [if_neg c1]
 rw [hsz] at c1
 have he := rlinT_fcm t (by omega)
 have hq : (rfT (t.data.toList.length + 1) t.data.toList 0 []).2.2 = true → (∀ x ∈ (rfT (t.data.toList.length + 1) t.data.toList 0 []).1, x.frm.size ≤ 1000000 ∧ x.to.size ≤ 1000000) ∧ (rfT (t.data.toList.length + 1) t.data.toList 0 []).1.length ≤ 1000000 := by
  intro hb
  have h1 := linesT_len t
  have h2 := eachT_size (linesA t.data.toList).2 1000000 (linesA t.data.toList).1 0 [] (fun x hx => by have := linesT_size t x hx; omega) (fun x hx => by cases hx)
  rw [(rfT_is (t.data.toList.length + 1) t.data.toList 0 [] (by omega)).2 hb]
  exact ⟨h2.1, Nat.le_trans h2.2 (by simp; omega)⟩
 generalize rfT (t.data.toList.length + 1) t.data.toList 0 [] = R at he hq ⊢
 obtain ⟨o, j, b⟩ := R
 simp only at he hq ⊢
 simp (maxSteps := 1000000) (disch := (first | omega | assumption)) only [go_sem]
 refine ⟨rfl, CALLM_rnE ⟨[(5, [.ow 5 0])], [(5, teRow o)]⟩ (.tu [iv j, bv b]) pRt qRt pRt_p qRt_q he (by simp) rfl rfl rfl rfl ⟨rfl, rfl⟩ ?_⟩
 cases b with
 | false =>
  rw [if_pos rfl]
  simp (maxSteps := 1000000) (disch := (first | omega | assumption)) only [go_sem]
  rfl
 | true =>
  rw [if_neg (by simp)]
  have hca := trF_fc o (hq rfl).2 (hq rfl).1
  simp (maxSteps := 1000000) (disch := (first | omega | assumption)) only [go_sem]
  refine CALL_det hca (.inl rfl) ?_
  by_cases c2 : tfF o ≠ 0
  ·rw [if_pos c2]
   simp (maxSteps := 1000000) (disch := (first | omega | assumption)) only [go_sem]
   rfl
  ·rw [if_neg c2]
   simp (maxSteps := 1000000) (disch := (first | omega | assumption)) only [go_sem]
end Go.Proofs.YtodmofhehabmgaaGreatDoor

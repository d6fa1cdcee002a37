/-
 Numbers, words and lines of a text, as the program cuts them.
-/
import Derived.Test.YtodmofhehabmgaaGreatDoorStr
import Derived.Test.YtodmofhehabmgaaGreatDoorTxt
namespace Go.Proofs.YtodmofhehabmgaaGreatDoor
open Go Go.Ai
set_option linter.unusedSimpArgs false
set_option linter.unusedVariables false
set_option maxHeartbeats 4000000
def C_cutS : AC := (.seq (.reg false [gI 4 (.mv (.v (.string (ByteArray.mk #[])))),gI 5 (.mv (.v (.bool false)))] (kP [0,1] [] []))
 (.seq (.reg false [gM 6 0,gM 7 1,gI 8 (.call (.f 175) [(.t 6),(.t 7)]),gI 9 (.extr (.t 8) 0),gI 10 (.extr (.t 8) 1),gM 4 9,gM 5 10] (kP [4,5] [] []))
 .ret))
theorem fc_cutS : FcT Tryz.prog 140 Tryz.f140 C_cutS [.t 4, .t 5] := fc_mk [aN [0,1] [] [],aN [4,5] [] []] Tryz.func140 (by kernel_rfl)
def C_cutSl : AC := (.seq (.reg false [gI 4 (.mv (.v (.string (ByteArray.mk #[])))),gI 5 (.mv (.v (.bool false)))] (kP [0,1] [] []))
 (.seq (.seq (.reg false [gM 6 0,gM 7 1,gI 8 (.call (.f 199) [(.t 6),(.t 7)]),gI 9 (.un .not (.t 8))] (kP [0,1,9] [] []))
 (.cond (.t 9)
 (.seq (.reg false [gM 10 0,gM 4 10,gI 5 (.mv (.v (.bool false)))] (kP [4,5] [] []))
 .ret)
 .skip))
 (.seq (.reg false [gM 11 0,gM 12 0,gI 13 (.slen (.t 12)),gM 14 1,gI 15 (.slen (.t 14)),gI 16 (.bin .sub (.t 13) (.t 15)),gI 17 (.ssub (.t 11) none (some (.t 16))),gM 4 17,gI 5 (.mv (.v (.bool true)))] (kP [4,5] [] []))
 .ret)))
theorem fc_cutSl : FcT Tryz.prog 175 Tryz.f175 C_cutSl [.t 4, .t 5] := fc_mk [aN [0,1] [] [],aN [0,1,9] [] [],aN [4,5] [] [],aN [4,5] [] []] Tryz.func175 (by kernel_rfl)
def C_hasSl : AC := (.seq (.reg false [gI 4 (.mv (.v (.bool false)))] (kP [0,1] [] []))
 (.seq (.reg false [gM 5 0,gI 6 (.slen (.t 5)),gM 7 1,gI 8 (.slen (.t 7)),gI 9 (.bin .geq (.t 6) (.t 8)),gM 10 9,gG 11 10 true (.mv (.t 0)),gG 12 10 true (.mv (.t 0)),gG 13 10 true (.slen (.t 12)),gG 14 10 true (.mv (.t 1)),gG 15 10 true (.slen (.t 14)),gG 16 10 true (.bin .sub (.t 13) (.t 15)),gG 17 10 true (.ssub (.t 11) (some (.t 16)) none),gG 18 10 true (.mv (.t 1)),gG 19 10 true (.bin .eql (.t 17) (.t 18)),gI 20 (.pick (.t 10) (.t 19) (.v (.bool false))),gM 4 20] (kP [4] [] []))
 .ret))
theorem fc_hasSl : FcT Tryz.prog 199 Tryz.f199 C_hasSl [.t 4] := fc_mk [aN [0,1] [] [],aN [4] [] []] Tryz.func199 (by kernel_rfl)
def C_trimP : AC := (.seq (.reg false [gI 4 (.mv (.v (.string (ByteArray.mk #[]))))] (kP [0,1] [] []))
 (.seq (.reg false [gM 5 0,gM 6 1,gI 7 (.call (.f 141) [(.t 5),(.t 6)]),gM 4 7] (kP [4] [] []))
 .ret))
theorem fc_trimP : FcT Tryz.prog 103 Tryz.f103 C_trimP [.t 4] := fc_mk [aN [0,1] [] [],aN [4] [] []] Tryz.func103 (by kernel_rfl)
def C_trimPl : AC := (.seq (.reg false [gI 4 (.mv (.v (.string (ByteArray.mk #[]))))] (kP [0,1] [] []))
 (.seq (.seq (.reg false [gM 5 0,gM 6 1,gI 7 (.call (.f 176) [(.t 5),(.t 6)])] (kP [0,1,7] [] []))
 (.cond (.t 7)
 (.seq (.reg false [gM 8 0,gM 9 1,gI 10 (.slen (.t 9)),gI 11 (.ssub (.t 8) (some (.t 10)) none),gM 4 11] (kP [4] [] []))
 .ret)
 .skip))
 (.seq (.reg false [gM 12 0,gM 4 12] (kP [4] [] []))
 .ret)))
theorem fc_trimPl : FcT Tryz.prog 141 Tryz.f141 C_trimPl [.t 4] := fc_mk [aN [0,1] [] [],aN [0,1,7] [] [],aN [4] [] [],aN [4] [] []] Tryz.func141 (by kernel_rfl)
def C_hasPl : AC := (.seq (.reg false [gI 4 (.mv (.v (.bool false)))] (kP [0,1] [] []))
 (.seq (.reg false [gM 5 0,gI 6 (.slen (.t 5)),gM 7 1,gI 8 (.slen (.t 7)),gI 9 (.bin .geq (.t 6) (.t 8)),gM 10 9,gG 11 10 true (.mv (.t 0)),gG 12 10 true (.mv (.t 1)),gG 13 10 true (.slen (.t 12)),gG 14 10 true (.ssub (.t 11) none (some (.t 13))),gG 15 10 true (.mv (.t 1)),gG 16 10 true (.bin .eql (.t 14) (.t 15)),gI 17 (.pick (.t 10) (.t 16) (.v (.bool false))),gM 4 17] (kP [4] [] []))
 .ret))
theorem fc_hasPl : FcT Tryz.prog 176 Tryz.f176 C_hasPl [.t 4] := fc_mk [aN [0,1] [] [],aN [4] [] []] Tryz.func176 (by kernel_rfl)
def C_number : AC := (.seq (.reg false [gI 4 (.mv (oI 0)),gI 5 (.mv (.v (.bool false)))] (kP [0,1] [] []))
 (.seq (.reg false [gM 10 0,gI 11 (.call (.f 103) [(.t 10),(.v (.string (ByteArray.mk #[45])))]),gM 6 11] (kP [0,1,6] [] []))
 (.seq (.seq (.reg false [gM 12 6,gI 13 (.bin .eql (.t 12) (.v (.string (ByteArray.mk #[])))),gM 14 13,gG 15 14 false (.mv (.t 6)),gG 16 14 false (.slen (.t 15)),gG 17 14 false (.mv (.t 1)),gG 18 14 false (.bin .gtr (.t 16) (.t 17)),gI 19 (.pick (.t 14) (.v (.bool true)) (.t 18)),gM 20 19,gG 21 20 false (.mv (.t 6)),gG 22 20 false (.idx (.t 21) (oI 0)),gG 23 20 false (.bin .eql (.t 22) (.v (.int .u8 (48)))),gG 24 20 false (.mv (.t 23)),gG 25 24 true (.mv (.t 6)),gG 26 24 true (.slen (.t 25)),gG 27 24 true (.bin .gtr (.t 26) (oI 1)),gG 28 24 true (.mv (.t 27)),gG 29 28 false (.mv (.t 0)),gG 30 28 false (.slen (.t 29)),gG 31 28 false (.mv (.t 6)),gG 32 28 false (.slen (.t 31)),gG 33 28 false (.bin .gtr (.t 30) (.t 32)),gG 34 24 true (.pick (.t 28) (.v (.bool true)) (.t 33)),gG 35 20 false (.pick (.t 24) (.t 34) (.v (.bool false))),gI 36 (.pick (.t 20) (.v (.bool true)) (.t 35))] (kP [0,6,36] [] []))
 (.cond (.t 36)
 (.seq (.reg false [gI 4 (.mv (oI 0)),gI 5 (.mv (.v (.bool false)))] (kP [4,5] [] []))
 .ret)
 .skip))
 (.seq (.seq (.reg false [gM 37 6,gI 38 (.slen (.t 37)),gI 39 (.mv (oI 0))] (kP [0,6,38,39] [] []))
 (.block 0 (.loop (.seq (.reg false [gI 40 (.bin .lss (.t 39) (.t 38))] (kP [0,6,38,39,40] [] []))
 (.seq (.cond (.t 40)
 .skip
 (.exit 0))
 (.seq (.block 1 (.seq (.reg false [gM 41 39,gM 7 41] (kP [0,6,7,38,39] [] []))
 (.seq (.reg false [gM 42 6,gM 43 7,gI 44 (.idx (.t 42) (.t 43)),gI 45 (.bin .lss (.t 44) (.v (.int .u8 (48)))),gM 46 45,gG 47 46 false (.mv (.t 6)),gG 48 46 false (.mv (.t 7)),gG 49 46 false (.idx (.t 47) (.t 48)),gG 50 46 false (.bin .gtr (.t 49) (.v (.int .u8 (57)))),gI 51 (.pick (.t 46) (.v (.bool true)) (.t 50))] (kP [0,6,38,39,51] [] []))
 (.cond (.t 51)
 (.seq (.reg false [gI 4 (.mv (oI 0)),gI 5 (.mv (.v (.bool false)))] (kP [4,5] [] []))
 .ret)
 .skip))))
 (.reg false [gI 52 (.bin .add (.t 39) (oI 1)),gM 39 52] (kP [0,6,38,39] [] []))))))))
 (.seq (.reg false [gM 54 0,gI 55 (.call (.f 104) [(.t 54)]),gM 53 55,gI 56 (.extr (.t 53) 0),gI 57 (.extr (.t 53) 1),gM 8 56,gM 9 57] (kP [8,9] [] []))
 (.seq (.reg true [gM 58 8,gM 59 9,gI 60 (.eqs false false [.ni] (.t 59) (.v .nilIface)),gM 4 58,gM 5 60] (kP [4,5] [] []))
 .ret))))))
theorem fc_number : FcT Tryz.prog 73 Tryz.f73 C_number [.t 4, .t 5] := fc_mk [aN [0,1] [] [],aN [0,1,6] [] [],aN [0,6,36] [] [],aN [4,5] [] [],aN [0,6,38,39] [] [],aN [0,6,38,39,40] [] [],aN [0,6,7,38,39] [] [],aN [0,6,38,39,51] [] [],aN [4,5] [] [],aN [0,6,38,39] [] [],aN [8,9] [] [],aN [4,5] [] []] Tryz.func73 (by kernel_rfl)
theorem ext_list (b : ByteArray) (i j : Nat) : (b.extract i j).data.toList = (b.data.toList.take j).drop i := by
 rw [ByteArray.data_extract, Array.toList_extract, List.extract_eq_drop_take', List.drop_take]
def hdIs (s : ByteArray) (c : UInt8) : Bool := decide (s.data.toList.head? = some c)
def ltIs (s : ByteArray) (c : UInt8) : Bool := decide (s.data.toList.getLast? = some c)
theorem ba_eq {a b : ByteArray} : a = b ↔ a.data.toList = b.data.toList := ⟨fun h => by rw [h], ba_ext⟩
theorem hd_ext (s p : ByteArray) (c : UInt8) (hp : p.data.toList = [c]) (h : 1 ≤ s.size) : decide (s.extract 0 p.size = p) = hdIs s c := by
 unfold hdIs
 congr 1
 rw [ba_eq, ext_list, szL p, hp]
 rw [szL] at h
 cases hs : s.data.toList with
 | nil => rw [hs] at h; simp at h
 | cons b l => simp
theorem lt_ext (s p : ByteArray) (c : UInt8) (hp : p.data.toList = [c]) (h : 1 ≤ s.size) : decide (s.extract (s.size - 1) s.size = p) = ltIs s c := by
 unfold ltIs
 congr 1
 rw [ba_eq, ext_list, hp]
 rw [szL] at h ⊢
 generalize s.data.toList = l at *
 have hne : l ≠ [] := by intro e; subst e; simp at h
 rw [List.take_length, List.getLast?_eq_some_getLast hne]
 conv => lhs; lhs; rw [← List.dropLast_concat_getLast hne]
 rw [List.drop_append_of_le_length (by simp), List.drop_of_length_le (by simp)]
 simp
theorem no_hd {s : ByteArray} {c : UInt8} (h : ¬1 ≤ s.size) : hdIs s c = false ∧ ltIs s c = false := by
 rw [szL] at h
 have e : s.data.toList = [] := List.eq_nil_of_length_eq_zero (by omega)
 unfold hdIs ltIs
 rw [e]; simp
theorem hd_sz {s : ByteArray} {c : UInt8} (h : hdIs s c = true ∨ ltIs s c = true) : 1 ≤ s.size := by
 apply Classical.byContradiction
 intro h1
 rcases h with h | h
 ·rw [(no_hd h1).1] at h; cases h
 ·rw [(no_hd h1).2] at h; cases h
theorem hasPl_fc (s p : ByteArray) (c : UInt8) (hp : p.data.toList = [c]) (hs : s.size ≤ 1000000) : FC Tryz.prog 176 none [sv s, sv p] (fun _ r => r = bv (hdIs s c)) := by
 refine fc_hasPl (by simp +arith) ?_
 have h1 : p.size = 1 := by rw [szL, hp]; rfl
 by_cases h : 1 ≤ s.size
 ·rw [← hd_ext s p c hp h]
  unfold C_hasPl
  simp (maxSteps := 1000000) (disch := (first | omega | assumption)) only [go_sem]
 ·rw [(no_hd h).1]
  unfold C_hasPl
  simp (maxSteps := 1000000) (disch := (first | omega | assumption)) only [go_sem]
theorem hasSl_fc (s p : ByteArray) (c : UInt8) (hp : p.data.toList = [c]) (hs : s.size ≤ 1000000) : FC Tryz.prog 199 none [sv s, sv p] (fun _ r => r = bv (ltIs s c)) := by
 refine fc_hasSl (by simp +arith) ?_
 have h1 : p.size = 1 := by rw [szL, hp]; rfl
 by_cases h : 1 ≤ s.size
 ·rw [← lt_ext s p c hp h]
  have e1 : ((s.size : Int) - p.size).toNat = s.size - 1 := by omega
  unfold C_hasSl
  simp (maxSteps := 1000000) (disch := (first | omega | assumption)) only [go_sem]
  rw [e1]
 ·rw [(no_hd h).2]
  unfold C_hasSl
  simp (maxSteps := 1000000) (disch := (first | omega | assumption)) only [go_sem]
def tlS (s : ByteArray) (c : UInt8) : ByteArray := if hdIs s c = true then bS s.data.toList.tail else s
theorem trimP_fc (s p : ByteArray) (c : UInt8) (hp : p.data.toList = [c]) (hs : s.size ≤ 1000000) : FC Tryz.prog 103 none [sv s, sv p] (fun _ r => r = sv (tlS s c)) := by
 have h0 : FC Tryz.prog 141 none [sv s, sv p] (fun _ r => r = sv (tlS s c)) := by
  refine fc_trimPl (by simp +arith) ?_
  have h1 : p.size = 1 := by rw [szL, hp]; rfl
  have hc := hasPl_fc s p c hp hs
  unfold C_trimPl tlS
  cases hb : hdIs s c with
  | true =>
   rw [hb] at hc
   have h : 1 ≤ s.size := hd_sz (.inl hb)
   have e : s.extract p.size s.size = bS s.data.toList.tail := ba_ext (by rw [ext_list, bS_list, szL s, List.take_length, h1, List.drop_one])
   rw [if_pos rfl, ← e]
   simp (maxSteps := 1000000) (disch := (first | omega | assumption)) only [go_sem]
   refine CALL_det hc (.inl rfl) ?_
   simp (maxSteps := 1000000) (disch := (first | omega | assumption)) only [go_sem]
  | false =>
   rw [hb] at hc
   rw [if_neg (by simp)]
   simp (maxSteps := 1000000) (disch := (first | omega | assumption)) only [go_sem]
   refine CALL_det hc (.inl rfl) ?_
   simp (maxSteps := 1000000) (disch := (first | omega | assumption)) only [go_sem]
 refine fc_trimP (by simp +arith) ?_
 unfold C_trimP
 simp (maxSteps := 1000000) (disch := (first | omega | assumption)) only [go_sem]
 refine CALL_det h0 (.inl rfl) ?_
 simp (maxSteps := 1000000) (disch := (first | omega | assumption)) only [go_sem]
def inS (s : ByteArray) (c : UInt8) : ByteArray := if ltIs s c = true then bS s.data.toList.dropLast else s
theorem cutS_fc (s p : ByteArray) (c : UInt8) (hp : p.data.toList = [c]) (hs : s.size ≤ 1000000) : FC Tryz.prog 140 none [sv s, sv p] (fun _ r => r = .tu [sv (inS s c), bv (ltIs s c)]) := by
 have h0 : FC Tryz.prog 175 none [sv s, sv p] (fun _ r => r = .tu [sv (inS s c), bv (ltIs s c)]) := by
  refine fc_cutSl (by simp +arith) ?_
  have h1 : p.size = 1 := by rw [szL, hp]; rfl
  have hc := hasSl_fc s p c hp hs
  unfold C_cutSl inS
  cases hb : ltIs s c with
  | true =>
   rw [hb] at hc
   have h : 1 ≤ s.size := hd_sz (.inr hb)
   have e1 : ((s.size : Int) - p.size).toNat = s.size - 1 := by omega
   have e : s.extract 0 (s.size - 1) = bS s.data.toList.dropLast := ba_ext (by rw [ext_list, bS_list, szL, List.drop_zero, List.dropLast_eq_take])
   rw [if_pos rfl, ← e]
   simp (maxSteps := 1000000) (disch := (first | omega | assumption)) only [go_sem]
   refine CALL_det hc (.inl rfl) ?_
   simp (maxSteps := 1000000) (disch := (first | omega | assumption)) only [go_sem]
   rw [e1]
  | false =>
   rw [hb] at hc
   rw [if_neg (by simp)]
   simp (maxSteps := 1000000) (disch := (first | omega | assumption)) only [go_sem]
   refine CALL_det hc (.inl rfl) ?_
   simp (maxSteps := 1000000) (disch := (first | omega | assumption)) only [go_sem]
 refine fc_cutS (by simp +arith) ?_
 unfold C_cutS
 simp (maxSteps := 1000000) (disch := (first | omega | assumption)) only [go_sem]
 refine CALL_det h0 (.inl rfl) ?_
 simp (maxSteps := 1000000) (disch := (first | omega | assumption)) only [go_sem]
/-! ### numbers -/
def digB (n : Nat) : Bool := decide (48 ≤ n ∧ n ≤ 57)
theorem all_dig (D : ByteArray) : D.data.toList.all isDig = allTo digB D D.size := by
 rw [Bool.eq_iff_iff, allTo_lt, List.all_eq_true]
 constructor
 ·intro h i hi
  rw [szL] at hi
  have := h _ (List.getElem_mem hi)
  rw [byteN, List.getD_eq_getElem?_getD, List.getElem?_eq_getElem hi]; exact this
 ·intro h c hc
  obtain ⟨i, hi, rfl⟩ := List.getElem_of_mem hc
  have := h i (by rw [szL]; exact hi)
  rw [byteN, List.getD_eq_getElem?_getD, List.getElem?_eq_getElem hi] at this; exact this
theorem emp_iff {D : ByteArray} : D = emp ↔ D.size = 0 := by
 rw [ba_eq, szL]
 exact ⟨fun h => by rw [h]; rfl, fun h => List.eq_nil_of_length_eq_zero h⟩
theorem tlS_sz (s : ByteArray) (c : UInt8) : (tlS s c).size ≤ s.size ∧ s.size ≤ (tlS s c).size + 1 := by
 unfold tlS
 by_cases h : hdIs s c = true
 ·have := hd_sz (.inl h)
  rw [if_pos h, bS_size, List.length_tail, ← szL]; omega
 ·rw [if_neg h]; omega
theorem noB_is (s : ByteArray) : noB s = (decide ((tlS s 45).size ≠ 0 ∧ (tlS s 45).size ≤ 15 ∧ ¬(byteN (tlS s 45) 0 = 48 ∧ (1 < (tlS s 45).size ∨ (tlS s 45).size < s.size))) && allTo digB (tlS s 45) (tlS s 45).size) := by
 have hn : numD s.data.toList = (tlS s 45).data.toList := by
  unfold numD tlS hdIs
  by_cases h : s.data.toList.head? = some 45
  ·rw [if_pos h, if_pos (decide_eq_true h)]; rfl
  ·rw [if_neg h, if_neg (by simpa using h)]
 unfold noB numOk
 rw [hn, all_dig, ← szL, ← szL]
 congr 1
 rw [decide_eq_decide]
 generalize tlS s 45 = D
 have e0 : D.data.toList ≠ [] ↔ D.size ≠ 0 := by rw [szL]; exact not_congr ⟨fun h => by rw [h]; rfl, List.eq_nil_of_length_eq_zero⟩
 rw [e0]
 have e1 : D.size ≠ 0 → (D.data.toList.head? = some 48 ↔ byteN D 0 = 48) := fun h => by
  unfold byteN
  rw [szL] at h
  cases hl : D.data.toList with
  | nil => rw [hl] at h; simp at h
  | cons b l =>
   simp only [List.head?_cons, Option.some.injEq, List.getD_cons_zero]
   exact ⟨fun h => by rw [h]; rfl, fun h => UInt8.toNat_inj.1 h⟩
 constructor
 ·rintro ⟨h1, h2, h3⟩; exact ⟨h1, h2, by rw [← e1 h1]; exact h3⟩
 ·rintro ⟨h1, h2, h3⟩; exact ⟨h1, h2, by rw [e1 h1]; exact h3⟩
set_option maxHeartbeats 8000000 in
theorem number_fc (s : ByteArray) (hs : s.size ≤ 1000000) : FC Tryz.prog 73 none [sv s, iv 15] (fun _ r => r = .tu [iv (if noB s = true then atN s else 0), bv (noB s)]) := by
 refine fc_number (by simp +arith) ?_
 have hc := trimP_fc s ⟨#[45]⟩ 45 rfl hs
 have hz := tlS_sz s 45
 have hat : noB s = true → FC Tryz.prog 104 none [sv s] (fun _ r => r = .tu [iv (atN s), .one (.g .nilIface)]) := fun h => by
  obtain ⟨n, h1, _⟩ := num_atoi h
  have h2 := noB_is s
  rw [h] at h2
  have h3 := of_decide_eq_true (Bool.and_eq_true_iff.1 h2.symm).1
  have : atN s = n := by unfold atN; rw [h1]; rfl
  rw [this]
  exact atoi_fc s n (by omega) h1
 have hno := noB_is s
 generalize tlS s 45 = D at hc hz hno
 generalize noB s = N at hat hno ⊢
 unfold C_number
 simp (maxSteps := 1000000) (disch := (first | omega | assumption)) only [go_sem]
 refine CALL_det hc (.inl rfl) ?_
 by_cases c1 : D.size = 0
 ·have c0 : D = emp := emp_iff.2 c1
  rw [hno, decide_eq_false (fun h => h.1 c1), Bool.false_and]
  simp (maxSteps := 1000000) (disch := (first | omega | assumption)) only [go_sem]
 have c0 : ¬D = emp := fun h => c1 (emp_iff.1 h)
 by_cases c2 : D.size > 15
 ·rw [hno, decide_eq_false (fun h => by omega), Bool.false_and]
  simp (maxSteps := 1000000) (disch := (first | omega | assumption)) only [go_sem]
 have e5 : byteN D 0 = (D.data.toList.getD (Int.toNat 0) 0).toNat := rfl
 rw [e5] at hno
 by_cases c3 : (D.data.toList.getD (Int.toNat 0) 0).toNat = 48 ∧ (1 < D.size ∨ D.size < s.size)
 ·rw [hno, decide_eq_false (fun h => h.2.2 c3), Bool.false_and]
  by_cases c4 : 1 < D.size
  ·simp (maxSteps := 1000000) (disch := (first | omega | assumption)) only [go_sem]
  ·have c5 : D.size < s.size := by omega
   simp (maxSteps := 1000000) (disch := (first | omega | assumption)) only [go_sem]
 rw [decide_eq_true ⟨c1, by omega, c3⟩, Bool.true_and] at hno
 have c6 : ¬((D.data.toList.getD (Int.toNat 0) 0).toNat = 48) ∨ ((D.data.toList.getD (Int.toNat 0) 0).toNat = 48 ∧ ¬(1 < D.size) ∧ ¬D.size < s.size) := by omega
 rcases c6 with c6 | ⟨c6, c7, c8⟩
 all_goals
  simp (maxSteps := 1000000) (disch := (first | omega | assumption)) only [go_sem]
  refine ex_loop1 (fun i => ⟨tabV [(0, sv s), (6, sv D), (38, iv D.size), (39, iv i)], tabO [], tabO []⟩) (fun i => 0 ≤ i ∧ i ≤ D.size ∧ allTo digB D i.toNat = true) (fun i => (D.size - i).toNat) 0 ⟨by omega, by omega, rfl⟩ rfl ?_
  rintro i ⟨h1, h2, h3⟩
  by_cases hi : i < D.size
  ·have e2 : (i + 1).toNat = i.toNat + 1 := by omega
   by_cases hb : digB (byteN D i.toNat) = true
   ·have h4 : allTo digB D (i + 1).toNat = true := by rw [e2, allTo, h3, hb]; rfl
    have hb2 := of_decide_eq_true hb
    unfold byteN at hb2
    simp (maxSteps := 1000000) (disch := (first | omega | assumption)) only [go_sem]
    exact ⟨i + 1, rfl, ⟨by omega, by omega, h4⟩, by omega⟩
   ·have h4 : N = false := by
     rw [hno]
     apply Bool.eq_false_iff.2
     intro h
     exact hb (allTo_lt.1 h i.toNat (by omega))
    have hb2 : ¬(48 ≤ byteN D i.toNat ∧ byteN D i.toNat ≤ 57) := fun h => hb (decide_eq_true h)
    unfold byteN at hb2
    rw [h4]
    by_cases hb3 : (D.data.toList.getD i.toNat 0).toNat < 48
    ·simp (maxSteps := 1000000) (disch := (first | omega | assumption)) only [go_sem]
    ·simp (maxSteps := 1000000) (disch := (first | omega | assumption)) only [go_sem]
  ·have e : i.toNat = D.size := by omega
   rw [e, ← hno] at h3
   subst h3
   have hc2 := hat rfl
   simp (maxSteps := 1000000) (disch := (first | omega | assumption)) only [go_sem]
   refine CALL_det hc2 (.inl rfl) ?_
   simp (maxSteps := 1000000) (disch := (first | omega | assumption)) only [go_sem]
end Go.Proofs.YtodmofhehabmgaaGreatDoor

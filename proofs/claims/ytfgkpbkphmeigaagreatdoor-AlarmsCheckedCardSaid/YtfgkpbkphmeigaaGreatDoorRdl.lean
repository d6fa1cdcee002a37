/-
 An alarm's line, read; alarms, read.
-/
import Derived.Test.YtfgkpbkphmeigaaGreatDoorWrl
namespace Go.Proofs.YtfgkpbkphmeigaaGreatDoor
open Go Go.Ai
set_option linter.unusedSimpArgs false
set_option linter.unusedVariables false
set_option maxHeartbeats 4000000
def C_word : AC := (.seq (.reg false [gI 2 (.mv (.v (.string (ByteArray.mk #[]))))] (kP [0] [] []))
 (.seq (.seq (.reg false [gM 3 0] (kP [3] [] []))
 (.block 0 (.seq (.reg false [gI 5 (.bin .eql (.t 3) (oI 1)),gM 4 5] (kP [3,4] [] []))
 (.cond (.t 4)
 (.seq (.reg false [gI 2 (.mv (.v (.string (ByteArray.mk #[104,105,103,104]))))] (kP [2] [] []))
 .ret)
 (.seq (.reg false [gI 7 (.bin .eql (.t 3) (oI 2)),gM 6 7] (kP [6] [] []))
 (.cond (.t 6)
 (.seq (.reg false [gI 2 (.mv (.v (.string (ByteArray.mk #[108,111,119]))))] (kP [2] [] []))
 .ret)
 .skip))))))
 (.seq (.reg false [gI 2 (.mv (.v (.string (ByteArray.mk #[98,97,100]))))] (kP [2] [] []))
 .ret)))
theorem fc_word : FcT Tryz.prog 189 Tryz.f189 C_word [.t 2] := fc_mk [aN [0] [] [],aN [3] [] [],aN [3,4] [] [],aN [2] [] [],aN [6] [] [],aN [2] [] [],aN [2] [] []] Tryz.func189 (by kernel_rfl)
def C_readLine : AC := (.seq (.reg false [gI 2 (.alloc [(.string (ByteArray.mk #[])),(.string (ByteArray.mk #[])),(.int .i64 (0)),(.int .i64 (0)),(.int .i64 (0)),(.int .i64 (0)),(.int .i64 (0)),(.int .i64 (0)),(.bool false),(.string (ByteArray.mk #[]))]),gI 3 (.mv (.v (.bool false)))] (kP [0,2] [2] []))
 (.seq (.reg false [gM 10 0,gI 11 (.call (.f 144) [(.t 10),(oI 10)]),gM 9 11,gI 12 (.extr (.t 9) 0),gI 13 (.extr (.t 9) 1),gM 4 12,gM 5 13] (kP [2,4,5] [2] []))
 (.seq (.seq (.reg false [gM 14 5,gI 15 (.un .not (.t 14)),gM 16 15,gG 17 16 false (.mv (.t 4)),gG 18 16 false (.call (.f 110) [(.t 17),(.v (.string (ByteArray.mk #[])))]),gI 19 (.pick (.t 16) (.v (.bool true)) (.t 18)),gM 20 19,gG 21 20 false (.mv (.t 4)),gG 22 20 false (.iadr 1 (.t 21) (oI 8)),gG 23 20 false (.load false 1 (.t 22)),gG 24 20 false (.bin .neq (.t 23) (.v (.string (ByteArray.mk #[48])))),gG 25 20 false (.mv (.t 24)),gG 26 25 true (.mv (.t 4)),gG 27 25 true (.iadr 1 (.t 26) (oI 8)),gG 28 25 true (.load false 1 (.t 27)),gG 29 25 true (.bin .neq (.t 28) (.v (.string (ByteArray.mk #[49])))),gG 30 20 false (.pick (.t 25) (.t 29) (.v (.bool false))),gI 31 (.pick (.t 20) (.v (.bool true)) (.t 30))] (kP [2,4,31] [2] []))
 (.cond (.t 31)
 (.seq (.reg false [gI 32 (.build [(.string (ByteArray.mk #[])),(.string (ByteArray.mk #[])),(.int .i64 (0)),(.int .i64 (0)),(.int .i64 (0)),(.int .i64 (0)),(.int .i64 (0)),(.int .i64 (0)),(.bool false),(.string (ByteArray.mk #[]))] []),gN (.store 10 (.t 2) (.t 32)),gI 3 (.mv (.v (.bool false)))] (kP [2,3] [2] []))
 .ret)
 .skip))
 (.seq (.reg false [gM 34 4,gI 35 (.slc 1 (.t 34) (some (oI 3)) (some (oI 8))),gI 36 (.call (.f 193) [(.t 35),(oI 15)]),gM 33 36,gI 37 (.extr (.t 33) 0),gI 38 (.extr (.t 33) 1),gM 6 37,gM 5 38] (kP [2,4,5,6] [2] []))
 (.seq (.seq (.reg false [gM 39 5,gI 40 (.un .not (.t 39))] (kP [2,4,6,40] [2] []))
 (.cond (.t 40)
 (.seq (.reg false [gI 41 (.build [(.string (ByteArray.mk #[])),(.string (ByteArray.mk #[])),(.int .i64 (0)),(.int .i64 (0)),(.int .i64 (0)),(.int .i64 (0)),(.int .i64 (0)),(.int .i64 (0)),(.bool false),(.string (ByteArray.mk #[]))] []),gN (.store 10 (.t 2) (.t 41)),gI 3 (.mv (.v (.bool false)))] (kP [2,3] [2] []))
 .ret)
 .skip))
 (.seq (.reg true [gM 42 4,gN (.chk (.t 42) none),gI 43 (.iadr 1 (.t 42) (oI 0)),gN (.chk (.t 43) none),gI 44 (.load false 1 (.t 43)),gM 45 4,gN (.chk (.t 45) none),gI 46 (.iadr 1 (.t 45) (oI 1)),gN (.chk (.t 46) none),gI 47 (.load false 1 (.t 46)),gM 48 6,gN (.chk (.t 48) none),gI 49 (.iadr 1 (.t 48) (oI 0)),gN (.chk (.t 49) none),gI 50 (.load false 1 (.t 49)),gM 51 6,gN (.chk (.t 51) none),gI 52 (.iadr 1 (.t 51) (oI 1)),gN (.chk (.t 52) none),gI 53 (.load false 1 (.t 52)),gM 54 6,gN (.chk (.t 54) none),gI 55 (.iadr 1 (.t 54) (oI 2)),gN (.chk (.t 55) none),gI 56 (.load false 1 (.t 55)),gM 57 6,gN (.chk (.t 57) none),gI 58 (.iadr 1 (.t 57) (oI 3)),gN (.chk (.t 58) none),gI 59 (.load false 1 (.t 58)),gM 60 6,gN (.chk (.t 60) none),gI 61 (.iadr 1 (.t 60) (oI 4)),gN (.chk (.t 61) none),gI 62 (.load false 1 (.t 61)),gM 63 4,gN (.chk (.t 63) none),gI 64 (.iadr 1 (.t 63) (oI 8)),gN (.chk (.t 64) none),gI 65 (.load false 1 (.t 64)),gI 66 (.bin .eql (.t 65) (.v (.string (ByteArray.mk #[49])))),gM 67 4,gN (.chk (.t 67) none),gI 68 (.iadr 1 (.t 67) (oI 9)),gN (.chk (.t 68) none),gI 69 (.load false 1 (.t 68)),gI 70 (.build [(.string (ByteArray.mk #[])),(.string (ByteArray.mk #[])),(.int .i64 (0)),(.int .i64 (0)),(.int .i64 (0)),(.int .i64 (0)),(.int .i64 (0)),(.int .i64 (0)),(.bool false),(.string (ByteArray.mk #[]))] [(0,1,(.t 44)),(1,1,(.t 47)),(3,1,(.t 50)),(4,1,(.t 53)),(5,1,(.t 56)),(6,1,(.t 59)),(7,1,(.t 62)),(8,1,(.t 66)),(9,1,(.t 69))]),gI 7 (.alloc [(.string (ByteArray.mk #[])),(.string (ByteArray.mk #[])),(.int .i64 (0)),(.int .i64 (0)),(.int .i64 (0)),(.int .i64 (0)),(.int .i64 (0)),(.int .i64 (0)),(.bool false),(.string (ByteArray.mk #[]))]),gN (.store 10 (.t 7) (.t 70))] (kP [2,4,7] [2,7] []))
 (.seq (.seq (.reg false [gI 71 (.fadr 9 (.t 7)),gI 72 (.load false 1 (.t 71)),gI 73 (.bin .eql (.t 72) (.v (.string (ByteArray.mk #[45]))))] (kP [2,4,7,73] [2,7] []))
 (.cond (.t 73)
 (.reg false [gI 74 (.fadr 9 (.t 7)),gN (.store 1 (.t 74) (.v (.string (ByteArray.mk #[]))))] (kP [2,4,7] [2,7] []))
 .skip))
 (.seq (.seq (.reg false [gI 8 (.mv (oI 1))] (kP [2,4,7,8] [2,7] []))
 (.block 0 (.loop (.seq (.seq (.reg false [gM 75 8,gI 76 (.bin .leq (.t 75) (oI 3))] (kP [2,4,7,8,76] [2,7] []))
 (.cond (.t 76)
 .skip
 (.exit 0)))
 (.seq (.block 1 (.seq (.reg true [gM 79 8,gI 80 (.call (.f 189) [(.t 79)]),gM 81 4,gI 82 (.iadr 1 (.t 81) (oI 2)),gI 83 (.load false 1 (.t 82)),gI 84 (.bin .eql (.t 80) (.t 83))] (kP [2,4,7,8,84] [2,7] []))
 (.cond (.t 84)
 (.reg false [gM 85 8,gI 86 (.fadr 2 (.t 7)),gN (.store 1 (.t 86) (.t 85))] (kP [2,4,7,8] [2,7] []))
 .skip)))
 (.reg false [gM 77 8,gI 78 (.bin .add (.t 77) (oI 1)),gM 8 78] (kP [2,4,7,8] [2,7] [])))))))
 (.seq (.reg true [gI 87 (.load true 10 (.t 7)),gN (.chk (.t 7) (some 7)),gI 88 (.fadr 2 (.t 7)),gN (.chk (.t 88) (some 7)),gI 89 (.load false 1 (.t 88)),gI 90 (.bin .neq (.t 89) (oI 0)),gN (.chk (.t 2) (some 2)),gN (.store 10 (.t 2) (.t 87)),gM 3 90] (kP [2,3] [2] []))
 .ret)))))))))
theorem fc_readLine : FcT Tryz.prog 106 Tryz.f106 C_readLine [.cell 2 true 10, .t 3] := fc_mk [aN [0,2] [2] [],aN [2,4,5] [2] [],aN [2,4,31] [2] [],aN [2,3] [2] [],aN [2,4,5,6] [2] [],aN [2,4,6,40] [2] [],aN [2,3] [2] [],⟨(kP [2,4,7] [2,7] []),[],[(1,none),(2,none),(4,none),(5,none),(7,none),(8,none),(10,none),(11,none),(13,none),(14,none),(16,none),(17,none),(19,none),(20,none),(22,none),(23,none),(26,none),(27,none)],[],[]⟩,aN [2,4,7,73] [2,7] [],aN [2,4,7] [2,7] [],aN [2,4,7,8] [2,7] [],aN [2,4,7,8,76] [2,7] [],aN [2,4,7,8,84] [2,7] [],aN [2,4,7,8] [2,7] [],aN [2,4,7,8] [2,7] [],⟨(kP [2,3] [2] []),[],[(1,(some 7)),(2,(some 7)),(4,(some 2))],[],[]⟩] Tryz.func106 (by kernel_rfl)
theorem word_fc (k : Int) : FC Tryz.prog 189 none [iv k] (fun _ r => r = sv (kwB k)) := by
 refine fc_word (by simp +arith) ?_
 unfold C_word kwB
 by_cases h1 : k = 1
 ·rw [if_pos h1]
  simp (maxSteps := 1000000) (disch := (first | omega | assumption)) only [go_sem]
 ·rw [if_neg h1]
  by_cases h2 : k = 2
  ·rw [if_pos h2]
   simp (maxSteps := 1000000) (disch := (first | omega | assumption)) only [go_sem]
  ·rw [if_neg h2]
   simp (maxSteps := 1000000) (disch := (first | omega | assumption)) only [go_sem]
/-- The kind that is found when the kinds before i are looked at. -/
def kwI (i : Int) (w : ByteArray) : Int := if i > 3 ∧ w = baW then 3 else if i > 2 ∧ w = loW then 2 else if i > 1 ∧ w = hiW then 1 else 0
theorem kwI_1 (w : ByteArray) : kwI 1 w = 0 := by unfold kwI; rw [if_neg (by omega), if_neg (by omega), if_neg (by omega)]
theorem kwI_4 (w : ByteArray) : kwI 4 w = kwN w := by unfold kwI kwN; simp
theorem kwI_succ {i : Int} (h : 1 ≤ i ∧ i ≤ 3) (w : ByteArray) : kwI (i + 1) w = if kwB i = w then i else kwI i w := by
 have h2 : i = 1 ∨ i = 2 ∨ i = 3 := by omega
 rcases h2 with rfl | rfl | rfl
 ·show kwI 2 w = if hiW = w then 1 else kwI 1 w
  unfold kwI
  rw [if_neg (by omega), if_neg (by omega), if_neg (show ¬((1 : Int) > 3 ∧ w = baW) by omega), if_neg (show ¬((1 : Int) > 2 ∧ w = loW) by omega), if_neg (show ¬((1 : Int) > 1 ∧ w = hiW) by omega)]
  by_cases h : w = hiW
  ·rw [if_pos ⟨by omega, h⟩, if_pos h.symm]
  ·rw [if_neg (fun h2 => h h2.2), if_neg (fun h2 => h h2.symm)]
 ·show kwI 3 w = if loW = w then 2 else kwI 2 w
  unfold kwI
  by_cases h : w = loW
  ·subst h; simp
  ·have h' : ¬loW = w := fun e => h e.symm
   simp [h, h']
 ·show kwI 4 w = if baW = w then 3 else kwI 3 w
  unfold kwI
  by_cases h : w = baW
  ·subst h; simp
  ·have h' : ¬baW = w := fun e => h e.symm
   simp [h, h']
theorem rd1_is (w : List ByteArray) : rd1 w = (wdsF w && (decide (w.getD 8 default = c0W) || decide (w.getD 8 default = c1W)) && ((w.drop 3).take 5).all noB) := by
 unfold rd1 wdsF; rfl
def rlA (w : List ByteArray) (p : ByteArray) (k : Int) : Alm := ⟨w.getD 0 default, w.getD 1 default, k, atN (w.getD 3 default), atN (w.getD 4 default), atN (w.getD 5 default), atN (w.getD 6 default), atN (w.getD 7 default), decide (w.getD 8 default = c1W), p⟩
def rlSt (w : List ByteArray) (p : ByteArray) (i : Int) : AS := ⟨tabV [(2, .one (.bx 2 0)), (4, strs true w), (7, .one (.bx 7 0)), (8, iv i)], tabO [(2, almS default), (7, almS (rlA w p (kwI i (w.getD 2 default))))], tabO []⟩
theorem gd0 {α : Type} {a d : α} {l : List α} : (a :: l).getD (Int.toNat 0) d = a := rfl
theorem gd1 {α : Type} {a b d : α} {l : List α} : (a :: b :: l).getD (Int.toNat 1) d = b := rfl
theorem gd2 {α : Type} {a b c d : α} {l : List α} : (a :: b :: c :: l).getD (Int.toNat 2) d = c := rfl
theorem gd3 {α : Type} {a b c e d : α} {l : List α} : (a :: b :: c :: e :: l).getD (Int.toNat 3) d = e := rfl
theorem gd4 {α : Type} {a b c e f d : α} {l : List α} : (a :: b :: c :: e :: f :: l).getD (Int.toNat 4) d = f := rfl
attribute [go_sem] gd0 gd1 gd2 gd3 gd4
theorem five_is {w : List ByteArray} (h : w.length = 10) : ((w.drop 3).take 5).map atN = [atN (w.getD 3 default), atN (w.getD 4 default), atN (w.getD 5 default), atN (w.getD 6 default), atN (w.getD 7 default)] := by
 match w, h with
 | [_, _, _, _, _, _, _, _, _, _], _ => rfl
set_option maxHeartbeats 12000000 in
theorem readLine_fc (s : ByteArray) (hs : s.size ≤ 1000000) : FC Tryz.prog 106 none [sv s] (fun _ r => r = .tu [.ag (almS (rdL s).1), bv (rdL s).2]) := by
 refine fc_readLine (by simp +arith) ?_
 have hc := words_fc s hs
 have hsz : ∀ x ∈ wds s, x.size ≤ 1000000 := by
  intro x hx
  obtain ⟨y, hy, rfl⟩ := List.mem_map.1 hx
  have := spl_mem 32 _ y hy
  rw [← szL] at this
  rw [bS_size]; omega
 unfold rdL
 generalize wds s = w at hc hsz ⊢
 rw [rd1_is]
 generalize hR : (if (wdsF w && (decide (w.getD 8 default = c0W) || decide (w.getD 8 default = c1W)) && ((w.drop 3).take 5).all noB) = true then (rdA w, decide (kwN (w.getD 2 emp) ≠ 0)) else (default, false)) = R
 unfold C_readLine
 simp (maxSteps := 1000000) (disch := (first | omega | assumption)) only [go_sem]
 refine CALL_det hc (.inl rfl) ?_
 cases hw : wdsF w with
 | false =>
  rw [hw, Bool.false_and, Bool.false_and, if_neg (by simp)] at hR
  subst hR
  simp (maxSteps := 1000000) (disch := (first | omega | assumption)) only [go_sem]
  rfl
 | true =>
 rw [hw, Bool.true_and] at hR
 unfold wdsF at hw
 obtain ⟨h10, hne⟩ := Bool.and_eq_true_iff.1 hw
 have h10 := of_decide_eq_true h10
 have hct := containsS_fc w (by omega) (fun x hx => of_decide_eq_true (List.all_eq_true.1 hne x hx))
 simp (maxSteps := 1000000) (disch := (first | omega | assumption)) only [go_sem]
 refine CALL_det hct (.inl rfl) ?_
 have em : List.drop (Int.toNat 3) (List.take (Int.toNat 8) (List.map strC w)) = List.map strC ((w.drop 3).take 5) := by
  rw [List.map_take, List.map_drop, show Int.toNat 3 = 3 from rfl, show Int.toNat 8 = 5 + 3 from rfl, List.take_drop]
 have d8 : ∀ {c d : ByteArray}, w.getD 8 default = c → c ≠ d → ¬(w.getD (Int.toNat 8) default = d) := fun h hd e => hd (h.symm.trans e)
 have hcn := numbers_fc ((w.drop 3).take 5) (fun x hx => hsz x (List.mem_of_mem_drop (List.mem_of_mem_take hx))) (by simp; omega)
 by_cases h8 : w.getD 8 default = c0W ∨ w.getD 8 default = c1W
 ·rw [show (decide (w.getD 8 default = c0W) || decide (w.getD 8 default = c1W)) = true by simpa using h8, Bool.true_and] at hR
  cases hn : ((w.drop 3).take 5).all noB with
  | false =>
   rw [hn] at hcn
   unfold numsF at hcn
   rw [hn, if_neg (by simp)] at hcn
   rw [hn, if_neg (by simp)] at hR
   subst hR
   have k8 : (¬¬w.getD (Int.toNat 8) default = c0W) ∨ ((¬w.getD (Int.toNat 8) default = c0W) ∧ ¬¬w.getD (Int.toNat 8) default = c1W) := h8.imp (fun h e => e h) (fun h => ⟨d8 h (by decide), fun e => e h⟩)
   rcases k8 with k8 | ⟨k8, k9⟩
   all_goals
    simp (maxSteps := 1000000) (disch := (first | omega | assumption)) only [go_sem]
    simp only [em]
    refine CALL_det hcn (.inl rfl) ?_
    simp (maxSteps := 1000000) (disch := (first | omega | assumption)) only [go_sem]
    rfl
  | true =>
   rw [hn] at hcn
   unfold numsF at hcn
   rw [hn, if_pos rfl, five_is h10] at hcn
   rw [hn, if_pos rfl] at hR
   have hp : ∃ p, rdA w = rlA w p (kwN (w.getD 2 default)) ∧ ((w.getD (Int.toNat 9) default = miW ∧ p = emp) ∨ (¬w.getD (Int.toNat 9) default = miW ∧ p = w.getD 9 default)) := by
    by_cases h9 : w.getD 9 default = miW
    ·exact ⟨emp, by unfold rdA rlA; rw [if_pos (show w.getD 9 emp = miW from h9)]; rfl, .inl ⟨h9, rfl⟩⟩
    ·exact ⟨w.getD 9 default, by unfold rdA rlA; rw [if_neg (show ¬w.getD 9 emp = miW from h9)]; rfl, .inr ⟨h9, rfl⟩⟩
   obtain ⟨p, hA, hp⟩ := hp
   rw [hA, show w.getD 2 emp = w.getD 2 default from rfl] at hR
   subst hR
   have hkw := fun i : Int => word_fc i
   have k8 : (¬¬w.getD (Int.toNat 8) default = c0W) ∨ ((¬w.getD (Int.toNat 8) default = c0W) ∧ ¬¬w.getD (Int.toNat 8) default = c1W) := h8.imp (fun h e => e h) (fun h => ⟨d8 h (by decide), fun e => e h⟩)
   rcases k8 with k8 | ⟨k8, k9⟩
   all_goals
    simp (maxSteps := 1000000) (disch := (first | omega | assumption)) only [go_sem]
    simp only [em]
    refine CALL_det hcn (.inl rfl) ?_
    rcases hp with ⟨h9, hp⟩ | ⟨h9, hp⟩
    all_goals
     simp (maxSteps := 1000000) (disch := (first | omega | assumption)) only [go_sem]
     refine ex_loop1 (rlSt w p) (fun i => 1 ≤ i ∧ i ≤ 4) (fun i => (4 - i).toNat) 1 ⟨by omega, by omega⟩ ?_ ?_
     ·unfold rlSt
      rw [kwI_1, hp]
      rfl
     rintro i ⟨g1, g2⟩
     unfold rlSt
     by_cases hi : i ≤ 3
     ·have hs := kwI_succ ⟨g1, hi⟩ (w.getD 2 default)
      by_cases h2 : kwB i = w.getD (Int.toNat 2) default
      ·rw [if_pos (show kwB i = w.getD 2 default from h2)] at hs
       simp (maxSteps := 1000000) (disch := (first | omega | assumption)) only [go_sem]
       refine CALL_det (word_fc i) (.inl rfl) ?_
       simp (maxSteps := 1000000) (disch := (first | omega | assumption)) only [go_sem]
       refine ⟨i + 1, ?_, ⟨by omega, by omega⟩, by omega⟩
       rw [hs]
       rfl
      ·rw [if_neg (show ¬kwB i = w.getD 2 default from h2)] at hs
       simp (maxSteps := 1000000) (disch := (first | omega | assumption)) only [go_sem]
       refine CALL_det (word_fc i) (.inl rfl) ?_
       simp (maxSteps := 1000000) (disch := (first | omega | assumption)) only [go_sem]
       refine ⟨i + 1, ?_, ⟨by omega, by omega⟩, by omega⟩
       rw [hs]
     ·have e4 : i = 4 := by omega
      subst e4
      rw [kwI_4]
      simp (maxSteps := 1000000) (disch := (first | omega | assumption)) only [go_sem]
      rfl
 ·rw [show (decide (w.getD 8 default = c0W) || decide (w.getD 8 default = c1W)) = false by simpa using h8, Bool.false_and, if_neg (by simp)] at hR
  subst hR
  have h80 : ¬w.getD (Int.toNat 8) default = c0W := fun h => h8 (.inl h)
  have h81 : ¬w.getD (Int.toNat 8) default = c1W := fun h => h8 (.inr h)
  simp (maxSteps := 1000000) (disch := (first | omega | assumption)) only [go_sem]
  rfl
end Go.Proofs.YtfgkpbkphmeigaaGreatDoor

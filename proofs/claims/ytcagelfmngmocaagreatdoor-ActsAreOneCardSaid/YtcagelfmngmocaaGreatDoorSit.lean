
/-
 The site of alarms: an act, an event, what is reported.
 The site of alarms: what is reported; all events up to a moment.
-/
import Derived.Test.YtcagelfmngmocaaGreatDoorAst
namespace Go.Proofs.YtcagelfmngmocaaGreatDoor
open Go Go.Ai
set_option linter.unusedSimpArgs false
set_option linter.unusedVariables false
set_option maxHeartbeats 4000000
def C_act_ : AC := (.seq (.reg false [gI 3 (.box (.t 1)),gI 4 (.mv (.v (.bool false)))] (kP [0,3] [3] [1000002]))
 (.seq (.seq (.reg false [gI 6 (.fadr 3 (.t 3)),gI 7 (.load false 1 (.t 6))] (kP [0,3,7] [3] [1000002]))
 (.block 0 (.seq (.reg false [gI 9 (.bin .eql (.t 7) (oI 2)),gM 8 9] (kP [0,3,7,8] [3] [1000002]))
 (.cond (.t 8)
 (.seq (.reg false [gM 10 0,gI 11 (.fadr 5 (.t 3)),gI 12 (.load false 1 (.t 11)),gI 13 (.nilchk (.t 10)),gI 14 (.fadr 2 (.t 13)),gN (.store 1 (.t 14) (.t 12))] (kP [] [] [1000002]))
 (.seq (.reg false [gI 4 (.mv (.v (.bool true)))] (kP [4] [] [1000002]))
 .ret))
 (.seq (.reg false [gI 16 (.bin .eql (.t 7) (oI 3)),gM 15 16] (kP [0,15] [] [1000002]))
 (.cond (.t 15)
 (.seq (.reg false [gM 17 0,gI 18 (.nilchk (.t 17)),gI 19 (.fadr 2 (.t 18)),gI 20 (.load false 1 (.t 19)),gI 21 (.bin .gtr (.t 20) (oI 0)),gM 5 21] (kP [0,5] [] [1000002]))
 (.seq (.reg false [gM 22 0,gI 23 (.nilchk (.t 22)),gI 24 (.fadr 2 (.t 23)),gN (.store 1 (.t 24) (oI 0))] (kP [5] [] [1000002]))
 (.seq (.reg false [gM 25 5,gM 4 25] (kP [4] [] [1000002]))
 .ret)))
 .skip))))))
 (.seq (.seq (.reg false [gM 26 0,gI 27 (.nilchk (.t 26)),gI 28 (.fadr 0 (.t 27)),gI 29 (.load false 1 (.t 28))] (kP [0,29] [] [1000002]))
 (.block 1 (.seq (.reg false [gI 31 (.bin .eql (.t 29) (oI 2)),gM 30 31] (kP [0,29,30] [] [1000002]))
 (.cond (.t 30)
 (.seq (.reg false [gM 32 0,gM 33 0,gI 34 (.nilchk (.t 32)),gI 35 (.fadr 0 (.t 34)),gN (.store 1 (.t 35) (oI 3)),gI 36 (.nilchk (.t 33)),gI 37 (.fadr 3 (.t 36)),gN (.store 1 (.t 37) (.v (.bool true)))] (kP [] [] [1000002]))
 (.seq (.reg false [gI 4 (.mv (.v (.bool true)))] (kP [4] [] [1000002]))
 .ret))
 (.seq (.reg false [gI 39 (.bin .eql (.t 29) (oI 4)),gM 38 39] (kP [0,38] [] [1000002]))
 (.cond (.t 38)
 (.seq (.reg false [gM 40 0,gI 41 (.nilchk (.t 40)),gI 42 (.fadr 0 (.t 41)),gN (.store 1 (.t 42) (oI 1))] (kP [] [] [1000002]))
 (.seq (.reg false [gI 4 (.mv (.v (.bool true)))] (kP [4] [] [1000002]))
 .ret))
 .skip))))))
 (.seq (.reg false [gI 4 (.mv (.v (.bool false)))] (kP [4] [] [1000002]))
 .ret))))
theorem fcms_act_ : FsT Tryz.prog 141 Tryz.f141 C_act_ [.t 4] := fcms_mk [aN [0,3] [3] [1000002],aN [0,3,7] [3] [1000002],aN [0,3,7,8] [3] [1000002],aN [] [] [1000002],aN [4] [] [1000002],aN [0,15] [] [1000002],aN [0,5] [] [1000002],aN [5] [] [1000002],aN [4] [] [1000002],aN [0,29] [] [1000002],aN [0,29,30] [] [1000002],aN [] [] [1000002],aN [4] [] [1000002],aN [0,38] [] [1000002],aN [] [] [1000002],aN [4] [] [1000002],aN [4] [] [1000002]] Tryz.func141 (by kernel_rfl)
def C_apply : AC := (.seq (.reg false [gI 3 (.box (.t 1))] (kP [0,3,1000001] [3,1000001] [1000002,1000003,1000004]))
 (.seq (.seq (.reg false [gI 5 (.fadr 1 (.t 3)),gI 6 (.load false 1 (.t 5)),gI 7 (.bin .eql (.t 6) (oI 2))] (kP [0,3,7,1000001] [3,1000001] [1000002,1000003,1000004]))
 (.cond (.t 7)
 (.seq (.seq (.reg true [gI 8 (.fadr 2 (.t 3)),gI 9 (.load false 1 (.t 8)),gI 10 (.bin .lss (.t 9) (oI 0)),gM 11 10,gG 12 11 false (.mv (.t 0)),gG 13 11 false (.nilchk (.t 12)),gG 14 11 false (.fadr 4 (.t 13)),gG 15 11 false (.load false 1 (.t 14)),gG 16 11 false (.fadr 2 (.t 3)),gG 17 11 false (.load false 1 (.t 16)),gG 18 11 false (.iadr 4 (.t 15) (.t 17)),gG 19 11 false (.mv (.t 0)),gG 20 11 false (.nilchk (.t 19)),gG 21 11 false (.fadr 1 (.t 20)),gG 22 11 false (.load false 1 (.t 21)),gG 23 11 false (.fadr 4 (.t 3)),gG 24 11 false (.load false 1 (.t 23)),gG 25 11 false (.iadr 6 (.t 22) (.t 24)),gG 26 11 false (.load true 6 (.t 25)),gG 27 11 false (.callm (.f 141) [(.t 18),(.t 26)] ⟨[],[1000002],[],[1000002],[1000002]⟩),gG 28 11 false (.un .not (.t 27)),gI 29 (.pick (.t 11) (.v (.bool true)) (.t 28))] (kP [0,3,29,1000001] [3,1000001] [1000002,1000003,1000004]))
 (.cond (.t 29)
 (.reg true [gM 30 0,gM 31 0,gI 32 (.nilchk (.t 31)),gI 33 (.fadr 6 (.t 32)),gI 34 (.load false 1 (.t 33)),gI 35 (.fadr 4 (.t 3)),gI 36 (.load false 1 (.t 35)),gI 37 (.bslice 1 1 [(.t 36)]),gI 38 (.append 3 1 8 (.t 34) (.t 37)),gI 39 (.nilchk (.t 30)),gI 40 (.fadr 6 (.t 39)),gN (.store 1 (.t 40) (.t 38))] (kP [] [1000001] [1000002,1000003,1000004]))
 .skip))
 .ret)
 .skip))
 (.seq (.reg true [gM 41 0,gI 42 (.nilchk (.t 41)),gI 43 (.fadr 4 (.t 42)),gI 44 (.load false 1 (.t 43)),gI 45 (.fadr 2 (.t 3)),gI 46 (.load false 1 (.t 45)),gI 47 (.iadr 4 (.t 44) (.t 46)),gM 4 47] (kP [0,3,4,1000001] [3,1000001] [1000002,1000003,1000004]))
 (.block 0 (.seq (.reg false [gI 74 (.fadr 1 (.t 3)),gI 75 (.load false 1 (.t 74)),gI 76 (.bin .eql (.t 75) (oI 1)),gM 73 76] (kP [0,3,4,73,1000001] [3,1000001] [1000002,1000003,1000004]))
 (.cond (.t 73)
 (.seq (.reg true [gM 77 4,gI 78 (.nilchk (.t 77)),gI 79 (.fadr 2 (.t 78)),gI 80 (.load false 1 (.t 79)),gI 81 (.fadr 0 (.t 3)),gI 82 (.load false 1 (.t 81)),gI 83 (.bin .eql (.t 80) (.t 82))] (kP [4,83] [1000001] [1000002,1000003,1000004]))
 (.cond (.t 83)
 (.reg false [gM 84 4,gI 85 (.nilchk (.t 84)),gI 86 (.fadr 2 (.t 85)),gN (.store 1 (.t 86) (oI 0))] (kP [] [1000001] [1000002,1000003,1000004]))
 .skip))
 (.seq (.reg false [gI 88 (.fadr 3 (.t 3)),gI 89 (.load false 1 (.t 88)),gM 87 89] (kP [0,3,4,87,1000001] [3,1000001] [1000002,1000003,1000004]))
 (.cond (.t 87)
 (.reg false [gM 90 4,gM 91 4,gM 92 4,gI 93 (.nilchk (.t 90)),gI 94 (.fadr 1 (.t 93)),gN (.store 1 (.t 94) (.v (.bool true))),gI 95 (.nilchk (.t 91)),gI 96 (.fadr 3 (.t 95)),gN (.store 1 (.t 96) (.v (.bool false))),gI 97 (.nilchk (.t 92)),gI 98 (.fadr 0 (.t 97)),gN (.store 1 (.t 98) (oI 2))] (kP [] [1000001] [1000002,1000003,1000004]))
 (.seq (.reg false [gM 48 4,gM 49 4,gI 50 (.nilchk (.t 48)),gI 51 (.fadr 1 (.t 50)),gN (.store 1 (.t 51) (.v (.bool false))),gI 52 (.nilchk (.t 49)),gI 53 (.fadr 0 (.t 52)),gN (.store 1 (.t 53) (oI 1))] (kP [0,3,4,1000001] [3,1000001] [1000002,1000003,1000004]))
 (.seq (.reg true [gM 54 0,gI 55 (.nilchk (.t 54)),gI 56 (.fadr 0 (.t 55)),gI 57 (.load false 1 (.t 56)),gI 58 (.fadr 2 (.t 3)),gI 59 (.load false 1 (.t 58)),gI 60 (.iadr 10 (.t 57) (.t 59)),gI 61 (.fadr 8 (.t 60)),gI 62 (.load false 1 (.t 61)),gM 63 62,gG 64 63 true (.mv (.t 4)),gG 65 63 true (.nilchk (.t 64)),gG 66 63 true (.fadr 3 (.t 65)),gG 67 63 true (.load false 1 (.t 66)),gG 68 63 true (.un .not (.t 67)),gI 69 (.pick (.t 63) (.t 68) (.v (.bool false)))] (kP [4,69] [1000001] [1000002,1000003,1000004]))
 (.cond (.t 69)
 (.reg false [gM 70 4,gI 71 (.nilchk (.t 70)),gI 72 (.fadr 0 (.t 71)),gN (.store 1 (.t 72) (oI 4))] (kP [] [1000001] [1000002,1000003,1000004]))
 .skip)))))))))))
theorem fcms_apply : FsT Tryz.prog 98 Tryz.f98 C_apply [] := fcms_mk [aN [0,3,1000001] [3,1000001] [1000002,1000003,1000004],aN [0,3,7,1000001] [3,1000001] [1000002,1000003,1000004],⟨(kP [0,3,29,1000001] [3,1000001] [1000002,1000003,1000004]),[],[],[],[(27,⟨[],[1000002],[],[1000002],[1000002]⟩)]⟩,aN [] [1000001] [1000002,1000003,1000004],aN [0,3,4,1000001] [3,1000001] [1000002,1000003,1000004],aN [0,3,4,73,1000001] [3,1000001] [1000002,1000003,1000004],aN [4,83] [1000001] [1000002,1000003,1000004],aN [] [1000001] [1000002,1000003,1000004],aN [0,3,4,87,1000001] [3,1000001] [1000002,1000003,1000004],aN [] [1000001] [1000002,1000003,1000004],aN [0,3,4,1000001] [3,1000001] [1000002,1000003,1000004],aN [4,69] [1000001] [1000002,1000003,1000004],aN [] [1000001] [1000002,1000003,1000004]] Tryz.func98 (by kernel_rfl)
abbrev staRow (l : List Sta) : Row := ⟨0, 148, 4, l.map staS⟩
abbrev stdRow (l : List Std) : Row := ⟨0, 42, 3, l.map stdS⟩
abbrev ignRow (l : List Int) : Row := ⟨0, 3, 1, l.map intC⟩
def upC (x : List Int) : List Cel := [.sl true 1 (x.map intC)]
theorem upC_eq (x : List Int) : upC x = [.sl true 1 (x.map intC)] := (rfl)
attribute [go_sem] upC_eq
theorem frE_of {α : Type} {f : α → List Cel} (h : ∀ x, (f x).all freshC = true) (l : List α) : frE (l.map f) = true := by
 unfold frE
 rw [List.all_eq_true]
 intro e he
 obtain ⟨x, _, rfl⟩ := List.mem_map.1 he
 exact h x
theorem datE_of {α : Type} {f : α → List Cel} (h : ∀ x, (f x).map Cel.dat = f x) (l : List α) : datE (l.map f) = l.map f := by
 unfold datE
 rw [List.map_map]
 exact List.map_congr_left fun x _ => h x
theorem tofE_of {α : Type} {f : α → List Cel} (h : ∀ x, (f x).map Cel.tof = f x) (l : List α) : tofE (l.map f) = l.map f := by
 unfold tofE
 rw [List.map_map]
 exact List.map_congr_left fun x _ => h x
theorem frE_sta (l : List Sta) : frE (l.map staS) = true := frE_of (fun _ => rfl) l
theorem frE_std (l : List Std) : frE (l.map stdS) = true := frE_of (fun _ => rfl) l
theorem datE_sta (l : List Sta) : datE (l.map staS) = l.map staS := datE_of (fun _ => rfl) l
theorem datE_std (l : List Std) : datE (l.map stdS) = l.map stdS := datE_of (fun _ => rfl) l
theorem tofE_std (l : List Std) : tofE (l.map stdS) = l.map stdS := tofE_of (fun _ => rfl) l
attribute [go_sem] frE_sta frE_std datE_sta datE_std tofE_std
theorem getE_set_mapS {α β : Type} (f : α → β) (l : List α) (i : Nat) (x : β) (h : i < l.length) : ((l.map f).set i x)[i]? = some x := by
 rw [List.getElem?_set_self (by simpa using h)]
theorem set_map_setS {α β : Type} (f : α → β) (l : List α) (i : Nat) (x y : β) : ((l.map f).set i x).set i y = (l.map f).set i y := by simp
attribute [go_sem] getE_set_mapS set_map_setS List.length_set
theorem set_same {α : Type} [Inhabited α] (l : List α) (i : Nat) (h : i < l.length) : l.set i (l.getD i default) = l := by
 rw [List.getD_eq_getElem?_getD, List.getElem?_eq_getElem h]; exact List.set_getElem_self h
theorem act_fcm (st : List Sta) (i : Int) (h0 : 0 ≤ i) (h : i < st.length) (a : Opr) : FCMS Tryz.prog 141 [1000002] ⟨[], [(1000002, staRow st)]⟩ [.one (.op 1000002 0 i.toNat 0), .ag (oprS a)]
  (fun H r => H = ⟨[], [(1000002, staRow (st.set i.toNat (actX (st.getD i.toNat default) a).1))]⟩ ∧ r = bv (actX (st.getD i.toNat default) a).2) := by
 refine fcms_act_ (K := ⟨[], [], [1000002]⟩) (by simp +arith) (by simp [XK]) (by simp [XK]) ?_
 have eg := getE_map_in staS st i.toNat (by omega)
 unfold C_act_ actX
 by_cases k2 : a.kd = 2
 ·rw [if_pos k2]
  simp (maxSteps := 1000000) (disch := omega) only [go_sem]
  simp [List.map_set, staS_eq]
 rw [if_neg k2]
 by_cases k3 : a.kd = 3
 ·rw [if_pos k3]
  simp (maxSteps := 1000000) (disch := omega) only [go_sem]
  simp [List.map_set, staS_eq]
 rw [if_neg k3]
 by_cases b2 : (st.getD i.toNat default).bl = 2
 ·rw [if_pos b2]
  simp (maxSteps := 1000000) (disch := omega) only [go_sem]
  simp [List.map_set, staS_eq]
 rw [if_neg b2]
 by_cases b4 : (st.getD i.toNat default).bl = 4
 ·rw [if_pos b4]
  simp (maxSteps := 1000000) (disch := omega) only [go_sem]
  simp [List.map_set, staS_eq]
 rw [if_neg b4]
 simp only [set_same st i.toNat (by omega)]
 simp (maxSteps := 1000000) (disch := omega) only [go_sem]
abbrev siC (l : List Alm) (a : List Opr) (ev : List Ev) (up : List (List Int)) : List Cel := [.sl false 10 (l.map almS), .sl false 6 (a.map oprS), .sl false 5 (ev.map evS), .sl false 1 (up.map upC), .ow 1000002 0, .ow 1000003 0, .ow 1000004 0]
abbrev siH (l : List Alm) (a : List Opr) (ev : List Ev) (up : List (List Int)) (s : Sit) : Hp := ⟨[(1000001, siC l a ev up)], [(1000002, staRow s.st), (1000003, stdRow s.td), (1000004, ignRow s.ig)]⟩
/-- An event speaks of alarms and acts that there are. -/
structure EvOk (n m : Nat) (e : Ev) : Prop where
 al : e.al < n
 al0 : e.k ≠ 2 → 0 ≤ e.al
 ac : e.k = 2 → 0 ≤ e.ac ∧ e.ac < m
set_option maxHeartbeats 4000000 in
theorem apply_fcm (l : List Alm) (a : List Opr) (ev : List Ev) (up : List (List Int)) (s : Sit) (e : Ev) (h1 : s.st.length = l.length) (h2 : l.length ≤ 1000000) (h3 : a.length ≤ 1000000) (h4 : s.ig.length ≤ 1000000) (he : EvOk l.length a.length e) :
  FCMS Tryz.prog 98 [1000002, 1000003] (siH l a ev up s) [.one (.bx 1000001 0), .ag (evS e)] (fun H r => H = siH l a ev up (appE l a e s) ∧ r = .tu []) := by
 refine fcms_apply (K := ⟨[], [1000001], [1000002, 1000003, 1000004]⟩) (by simp +arith) (by simp [XK]) (by simp [XK]) ?_
 obtain ⟨e1, e2, e3⟩ := he
 unfold C_apply appE
 by_cases k2 : e.k = 2
 ·rw [if_pos k2]
  by_cases a0 : e.al < 0
  ·rw [if_pos a0]
   simp (maxSteps := 1000000) (disch := omega) only [go_sem]
   simp [intC_eq]
  ·rw [if_neg a0]
   have e3 := e3 k2
   have ha := act_fcm s.st e.al (by omega) (by omega) (a.getD e.ac.toNat default)
   generalize actX (s.st.getD e.al.toNat default) (a.getD e.ac.toNat default) = y at *
   obtain ⟨y1, y2⟩ := y
   simp only at ha
   cases y2 with
   | true =>
    simp (maxSteps := 1000000) (disch := omega) only [go_sem]
    refine ⟨rfl, CALLM_det ha ⟨rfl, rfl⟩ ?_⟩
    simp (maxSteps := 1000000) (disch := omega) only [go_sem]
   | false =>
    simp (maxSteps := 1000000) (disch := omega) only [go_sem]
    refine ⟨rfl, CALLM_det ha ⟨rfl, rfl⟩ ?_⟩
    simp (maxSteps := 1000000) (disch := omega) only [go_sem]
    simp [intC_eq]
 rw [if_neg k2]
 have e2 := e2 k2
 have eg := getE_map_in staS s.st e.al.toNat (by omega)
 unfold turnX
 by_cases k1 : e.k = 1
 ·rw [if_pos k1]
  by_cases u1 : (s.st.getD e.al.toNat default).un = e.a
  ·rw [if_pos u1]
   simp (maxSteps := 1000000) (disch := omega) only [go_sem]
   simp [List.map_set, staS_eq]
  ·rw [if_neg u1, set_same s.st e.al.toNat (by omega)]
   simp (maxSteps := 1000000) (disch := omega) only [go_sem]
 rw [if_neg k1]
 cases hon : e.on with
 | true =>
  rw [if_pos rfl]
  simp (maxSteps := 1000000) (disch := omega) only [go_sem]
  simp only [hon]
  simp [List.map_set, staS_eq]
 | false =>
  rw [if_neg (by simp)]
  cases hlt : (l.getD e.al.toNat default).lt with
  | true =>
   cases hak : (s.st.getD e.al.toNat default).ak with
   | true =>
    rw [if_neg (by simp)]
    simp (maxSteps := 1000000) (disch := omega) only [go_sem]
    simp only [hon, hlt, hak]
    simp [List.map_set, staS_eq]
   | false =>
    rw [if_pos (by simp)]
    simp (maxSteps := 1000000) (disch := omega) only [go_sem]
    simp only [hon, hlt, hak]
    simp [List.map_set, staS_eq]
  | false =>
   rw [if_neg (by simp)]
   simp (maxSteps := 1000000) (disch := omega) only [go_sem]
   simp only [hon, hlt]
   simp [List.map_set, staS_eq]
end Go.Proofs.YtcagelfmngmocaaGreatDoor
namespace Go.Proofs.YtcagelfmngmocaaGreatDoor
open Go Go.Ai
set_option linter.unusedSimpArgs false
set_option linter.unusedVariables false
set_option maxHeartbeats 4000000
def C_rep_ : AC := (.seq (.reg false [gI 4 (.mv (oI 0))] (kP [0,1,1000001] [1000001] [1000002,1000003,1000004]))
 (.seq (.seq (.reg false [gM 7 0,gI 8 (.nilchk (.t 7)),gI 9 (.fadr 3 (.t 8)),gI 10 (.load false 1 (.t 9)),gM 11 1,gI 12 (.iadr 1 (.t 10) (.t 11)),gI 13 (.load false 1 (.t 12)),gI 14 (.len (.t 13)),gI 15 (.mv (oI 0))] (kP [0,1,13,14,15,1000001] [1000001] [1000002,1000003,1000004]))
 (.block 0 (.loop (.seq (.reg false [gI 16 (.bin .lss (.t 15) (.t 14))] (kP [0,1,13,14,15,16,1000001] [1000001] [1000002,1000003,1000004]))
 (.seq (.cond (.t 16)
 .skip
 (.exit 0))
 (.seq (.block 1 (.seq (.reg false [gI 17 (.iadr 1 (.t 13) (.t 15)),gI 18 (.load false 1 (.t 17)),gM 6 18] (kP [0,1,6,13,14,15,1000001] [1000001] [1000002,1000003,1000004]))
 (.seq (.reg false [gM 19 0,gI 20 (.nilchk (.t 19)),gI 21 (.fadr 4 (.t 20)),gI 22 (.load false 1 (.t 21)),gM 23 6,gI 24 (.iadr 4 (.t 22) (.t 23)),gI 25 (.fadr 1 (.t 24)),gI 26 (.load false 1 (.t 25))] (kP [0,1,13,14,15,26,1000001] [1000001] [1000002,1000003,1000004]))
 (.cond (.t 26)
 (.seq (.reg false [gI 4 (.mv (oI 6))] (kP [4] [1000001] [1000002,1000003,1000004]))
 .ret)
 .skip))))
 (.reg false [gI 27 (.bin .add (.t 15) (oI 1)),gM 15 27] (kP [0,1,13,14,15,1000001] [1000001] [1000002,1000003,1000004]))))))))
 (.seq (.seq (.reg false [gM 28 0,gI 29 (.nilchk (.t 28)),gI 30 (.fadr 4 (.t 29)),gI 31 (.load false 1 (.t 30)),gM 32 1,gI 33 (.iadr 4 (.t 31) (.t 32)),gI 34 (.fadr 2 (.t 33)),gI 35 (.load false 1 (.t 34)),gI 36 (.bin .gtr (.t 35) (oI 0))] (kP [0,1,36,1000001] [1000001] [1000002,1000003,1000004]))
 (.cond (.t 36)
 (.seq (.reg false [gI 4 (.mv (oI 5))] (kP [4] [1000001] [1000002,1000003,1000004]))
 .ret)
 .skip))
 (.seq (.reg false [gM 37 0,gI 38 (.nilchk (.t 37)),gI 39 (.fadr 4 (.t 38)),gI 40 (.load false 1 (.t 39)),gM 41 1,gI 42 (.iadr 4 (.t 40) (.t 41)),gI 43 (.fadr 0 (.t 42)),gI 44 (.load false 1 (.t 43)),gM 4 44] (kP [4] [1000001] [1000002,1000003,1000004]))
 .ret))))
theorem fcms_rep_ : FsT Tryz.prog 99 Tryz.f99 C_rep_ [.t 4] := fcms_mk [aN [0,1,1000001] [1000001] [1000002,1000003,1000004],aN [0,1,13,14,15,1000001] [1000001] [1000002,1000003,1000004],aN [0,1,13,14,15,16,1000001] [1000001] [1000002,1000003,1000004],aN [0,1,6,13,14,15,1000001] [1000001] [1000002,1000003,1000004],aN [0,1,13,14,15,26,1000001] [1000001] [1000002,1000003,1000004],aN [4] [1000001] [1000002,1000003,1000004],aN [0,1,13,14,15,1000001] [1000001] [1000002,1000003,1000004],aN [0,1,36,1000001] [1000001] [1000002,1000003,1000004],aN [4] [1000001] [1000002,1000003,1000004],aN [4] [1000001] [1000002,1000003,1000004]] Tryz.func99 (by kernel_rfl)
def C_run : AC := (.block 0 (.loop (.seq (.seq (.reg false [gM 9 0,gI 10 (.nilchk (.t 9)),gI 11 (.fadr 2 (.t 10)),gI 12 (.load false 1 (.t 11)),gI 13 (.len (.t 12)),gI 14 (.bin .gtr (.t 13) (oI 0)),gM 15 14,gG 16 15 true (.mv (.t 0)),gG 17 15 true (.nilchk (.t 16)),gG 18 15 true (.fadr 2 (.t 17)),gG 19 15 true (.load false 1 (.t 18)),gG 20 15 true (.iadr 5 (.t 19) (oI 0)),gG 21 15 true (.fadr 0 (.t 20)),gG 22 15 true (.load false 1 (.t 21)),gG 23 15 true (.mv (.t 1)),gG 24 15 true (.bin .leq (.t 22) (.t 23)),gI 25 (.pick (.t 15) (.t 24) (.v (.bool false)))] (kP [0,1,2,25,1000001] [1000001] [1000002,1000003,1000004]))
 (.cond (.t 25)
 .skip
 (.exit 0)))
 (.block 1 (.seq (.reg false [gM 26 0,gI 27 (.nilchk (.t 26)),gI 28 (.fadr 2 (.t 27)),gI 29 (.load false 1 (.t 28)),gI 30 (.iadr 5 (.t 29) (oI 0)),gI 31 (.fadr 0 (.t 30)),gI 32 (.load false 1 (.t 31)),gM 6 32] (kP [0,1,2,6,1000001] [1000001] [1000002,1000003,1000004]))
 (.seq (.block 2 (.loop (.seq (.seq (.reg false [gM 33 0,gI 34 (.nilchk (.t 33)),gI 35 (.fadr 2 (.t 34)),gI 36 (.load false 1 (.t 35)),gI 37 (.len (.t 36)),gI 38 (.bin .gtr (.t 37) (oI 0)),gM 39 38,gG 40 39 true (.mv (.t 0)),gG 41 39 true (.nilchk (.t 40)),gG 42 39 true (.fadr 2 (.t 41)),gG 43 39 true (.load false 1 (.t 42)),gG 44 39 true (.iadr 5 (.t 43) (oI 0)),gG 45 39 true (.fadr 0 (.t 44)),gG 46 39 true (.load false 1 (.t 45)),gG 47 39 true (.mv (.t 6)),gG 48 39 true (.bin .eql (.t 46) (.t 47)),gI 49 (.pick (.t 39) (.t 48) (.v (.bool false)))] (kP [0,1,2,6,49,1000001] [1000001] [1000002,1000003,1000004]))
 (.cond (.t 49)
 .skip
 (.exit 2)))
 (.block 3 (.seq (.reg false [gM 50 0,gM 51 0,gI 52 (.nilchk (.t 51)),gI 53 (.fadr 2 (.t 52)),gI 54 (.load false 1 (.t 53)),gI 55 (.iadr 5 (.t 54) (oI 0)),gI 56 (.load true 5 (.t 55)),gI 57 (.callm (.f 98) [(.t 50),(.t 56)] ⟨[1000001],[1000002,1000003,1000004],[1000001],[1000002,1000003,1000004],[1000002,1000003]⟩)] (kP [0,1,2,6,1000001] [1000001] [1000002,1000003,1000004]))
 (.reg false [gM 58 0,gM 59 0,gI 60 (.nilchk (.t 59)),gI 61 (.fadr 2 (.t 60)),gI 62 (.load false 1 (.t 61)),gI 63 (.slc 5 (.t 62) (some (oI 1)) none),gI 64 (.nilchk (.t 58)),gI 65 (.fadr 2 (.t 64)),gN (.store 1 (.t 65) (.t 63))] (kP [0,1,2,6,1000001] [1000001] [1000002,1000003,1000004])))))))
 (.seq (.reg false [gM 66 0,gI 67 (.nilchk (.t 66)),gI 68 (.fadr 0 (.t 67)),gI 69 (.load false 1 (.t 68)),gI 70 (.len (.t 69)),gI 71 (.mv (oI 0))] (kP [0,1,2,6,70,71,1000001] [1000001] [1000002,1000003,1000004]))
 (.block 4 (.loop (.seq (.reg false [gI 72 (.bin .lss (.t 71) (.t 70))] (kP [0,1,2,6,70,71,72,1000001] [1000001] [1000002,1000003,1000004]))
 (.seq (.cond (.t 72)
 .skip
 (.exit 4))
 (.seq (.block 5 (.seq (.reg false [gM 73 71,gM 7 73] (kP [0,1,2,6,7,70,71,1000001] [1000001] [1000002,1000003,1000004]))
 (.seq (.reg false [gM 74 0,gM 75 7,gI 76 (.callm (.f 99) [(.t 74),(.t 75)] ⟨[1000001],[1000002,1000003,1000004],[1000001],[1000002,1000003,1000004],[1000002,1000003,1000004]⟩),gM 8 76] (kP [0,1,2,6,7,8,70,71,1000001] [1000001] [1000002,1000003,1000004]))
 (.seq (.reg false [gM 77 8,gM 78 0,gI 79 (.nilchk (.t 78)),gI 80 (.fadr 5 (.t 79)),gI 81 (.load false 1 (.t 80)),gM 82 7,gI 83 (.iadr 3 (.t 81) (.t 82)),gI 84 (.fadr 1 (.t 83)),gI 85 (.load false 1 (.t 84)),gI 86 (.bin .neq (.t 77) (.t 85))] (kP [0,1,2,6,7,8,70,71,86,1000001] [1000001] [1000002,1000003,1000004]))
 (.cond (.t 86)
 (.seq (.reg true [gM 87 0,gI 88 (.nilchk (.t 87)),gI 89 (.fadr 5 (.t 88)),gI 90 (.load false 1 (.t 89)),gM 91 7,gM 92 0,gI 93 (.nilchk (.t 92)),gI 94 (.fadr 5 (.t 93)),gI 95 (.load false 1 (.t 94)),gM 96 7,gM 97 8,gM 98 6,gI 99 (.iadr 3 (.t 90) (.t 91)),gI 100 (.fadr 1 (.t 99)),gN (.store 1 (.t 100) (.t 97)),gI 101 (.iadr 3 (.t 95) (.t 96)),gI 102 (.fadr 2 (.t 101)),gN (.store 1 (.t 102) (.t 98))] (kP [0,1,2,6,7,70,71,1000001] [1000001] [1000002,1000003,1000004]))
 (.reg false [gM 103 2,gM 104 0,gI 105 (.nilchk (.t 104)),gI 106 (.fadr 5 (.t 105)),gI 107 (.load false 1 (.t 106)),gM 108 7,gI 109 (.iadr 3 (.t 107) (.t 108)),gI 110 (.load true 3 (.t 109)),gI 111 (.call (.t 103) [(.t 110)])] (kP [0,1,2,6,70,71,1000001] [1000001] [1000002,1000003,1000004])))
 .skip)))))
 (.reg false [gI 112 (.bin .add (.t 71) (oI 1)),gM 71 112] (kP [0,1,2,6,70,71,1000001] [1000001] [1000002,1000003,1000004]))))))))))))))
theorem fcms_run : FsT Tryz.prog 38 Tryz.f38 C_run [] := fcms_mk [aN [0,1,2,25,1000001] [1000001] [1000002,1000003,1000004],aN [0,1,2,6,1000001] [1000001] [1000002,1000003,1000004],aN [0,1,2,6,49,1000001] [1000001] [1000002,1000003,1000004],⟨(kP [0,1,2,6,1000001] [1000001] [1000002,1000003,1000004]),[],[],[],[(57,⟨[1000001],[1000002,1000003,1000004],[1000001],[1000002,1000003,1000004],[1000002,1000003]⟩)]⟩,aN [0,1,2,6,1000001] [1000001] [1000002,1000003,1000004],aN [0,1,2,6,70,71,1000001] [1000001] [1000002,1000003,1000004],aN [0,1,2,6,70,71,72,1000001] [1000001] [1000002,1000003,1000004],aN [0,1,2,6,7,70,71,1000001] [1000001] [1000002,1000003,1000004],⟨(kP [0,1,2,6,7,8,70,71,1000001] [1000001] [1000002,1000003,1000004]),[],[],[],[(76,⟨[1000001],[1000002,1000003,1000004],[1000001],[1000002,1000003,1000004],[1000002,1000003,1000004]⟩)]⟩,aN [0,1,2,6,7,8,70,71,86,1000001] [1000001] [1000002,1000003,1000004],aN [0,1,2,6,7,70,71,1000001] [1000001] [1000002,1000003,1000004],aN [0,1,2,6,70,71,1000001] [1000001] [1000002,1000003,1000004],aN [0,1,2,6,70,71,1000001] [1000001] [1000002,1000003,1000004]] Tryz.func38 (by kernel_rfl)
def repSt (l : List Alm) (a : List Opr) (ev : List Ev) (up : List (List Int)) (s : Sit) (i : Int) (x : List Int) (j : Int) : AS := ⟨tabV [(0, .one (.bx 1000001 0)), (1, iv i), (13, ints false x), (14, iv x.length), (15, iv j), (1000001, .any)], tabO [(1000001, siC l a ev up)], tabO [(1000002, staRow s.st), (1000003, stdRow s.td), (1000004, ignRow s.ig)]⟩
set_option maxHeartbeats 4000000 in
theorem rep_fcm (l : List Alm) (a : List Opr) (ev : List Ev) (up : List (List Int)) (s : Sit) (i : Int) (h0 : 0 ≤ i) (h1 : i < s.st.length) (h2 : up.length = s.st.length) (h3 : ∀ k ∈ up.getD i.toNat default, 0 ≤ k ∧ k < s.st.length) (h4 : s.st.length ≤ 1000000) (h5 : (up.getD i.toNat default).length ≤ 1000000) :
  FCMS Tryz.prog 99 [1000002, 1000003, 1000004] (siH l a ev up s) [.one (.bx 1000001 0), iv i] (fun H r => H = siH l a ev up s ∧ r = iv (repX up s.st i.toNat)) := by
 refine fcms_rep_ (K := ⟨[], [1000001], [1000002, 1000003, 1000004]⟩) (by simp +arith) (by simp [XK]) (by simp [XK]) ?_
 have eu : (up.getD i.toNat ([] : List Int)) = up.getD i.toNat default := rfl
 have em := getD_map_at upC up i [] h0 (by omega)
 unfold C_rep_ repX
 rw [eu]
 generalize hx : up.getD i.toNat default = x at *
 have es := getD_map_at staS s.st i [] h0 (by omega)
 simp (maxSteps := 1000000) (disch := omega) only [go_sem]
 simp only [hx]
 refine ex_loop1 (repSt l a ev up s i x) (fun j => 0 ≤ j ∧ j ≤ x.length ∧ (x.drop j.toNat).any (fun k => (s.st.getD k.toNat default).ac) = x.any (fun k => (s.st.getD k.toNat default).ac)) (fun j => (x.length - j).toNat) 0 ⟨by omega, by omega, rfl⟩ rfl ?_
 rintro j ⟨g1, g2, g3⟩
 unfold repSt
 by_cases hj : j < x.length
 ·have e2 : (j + 1).toNat = j.toNat + 1 := by omega
  rw [drop_cons x j.toNat (by omega), List.any_cons] at g3
  have hk := h3 _ (getD_mem x j.toNat (by omega))
  have ej := getD_map_at intC x j [] g1 hj
  have ek := getD_map_at staS s.st (x.getD j.toNat default) [] hk.1 hk.2
  cases hb : (s.st.getD (x.getD j.toNat default).toNat default).ac with
  | true =>
   rw [hb, Bool.true_or] at g3
   rw [← g3, if_pos rfl]
   simp (maxSteps := 1000000) (disch := omega) only [go_sem]
   exact fun h => by rw [hb] at h; simp at h
  | false =>
   rw [hb, Bool.false_or] at g3
   simp (maxSteps := 1000000) (disch := omega) only [go_sem]
   refine ⟨fun h => by rw [hb] at h; simp at h, fun _ => ⟨j + 1, rfl, ⟨by omega, by omega, by rw [e2]; exact g3⟩, by omega⟩⟩
 ·rw [List.drop_eq_nil_of_le (by omega), List.any_nil] at g3
  rw [← g3, if_neg (by simp)]
  by_cases hu : (s.st.getD i.toNat default).un > 0
  ·rw [if_pos hu]
   simp (maxSteps := 1000000) (disch := omega) only [go_sem]
  ·rw [if_neg hu]
   simp (maxSteps := 1000000) (disch := omega) only [go_sem]
def restR (to : Int) : List Ev → List Ev
 | [] => []
 | e :: r => if to < e.a then e :: r else restR to r
abbrev siCv (v : Nat) (l : List Alm) (a : List Opr) (ev : List Ev) (up : List (List Int)) : List Cel := [.sl false 10 (l.map almS), .sl false 6 (a.map oprS), .sl false 5 (ev.map evS), .sl false 1 (up.map upC), .ow 1000002 0, .ow 1000003 0, .ow 1000004 v]
abbrev ignV (v : Nat) (l : List Int) : Row := ⟨v, 3, 1, l.map intC⟩
def ru1St (cl : FuncId) (l : List Alm) (a : List Opr) (up : List (List Int)) (to : Int) (ev : List Ev) (s : Sit) (v : Nat) (w : Val × Val × Val × Val) : AS := ⟨tabV [(0, .one (.bx 1000001 0)), (1, iv to), (2, .one (.fn cl [])), (6, w.1), (70, w.2.1), (71, w.2.2.1), (72, w.2.2.2), (1000001, .any)], tabO [(1000001, siCv v l a ev up)], tabO [(1000002, staRow s.st), (1000003, stdRow s.td), (1000004, ignV v s.ig)]⟩
def ru2St (cl : FuncId) (l : List Alm) (a : List Opr) (up : List (List Int)) (to at_ : Int) (ev : List Ev) (s : Sit) (v : Nat) : AS := ⟨tabV [(0, .one (.bx 1000001 0)), (1, iv to), (2, .one (.fn cl [])), (6, iv at_), (1000001, .any)], tabO [(1000001, siCv v l a ev up)], tabO [(1000002, staRow s.st), (1000003, stdRow s.td), (1000004, ignV v s.ig)]⟩
def ru3St (cl : FuncId) (l : List Alm) (a : List Opr) (up : List (List Int)) (to at_ : Int) (ev : List Ev) (n i : Int) (s : Sit) (v : Nat) : AS := ⟨tabV [(0, .one (.bx 1000001 0)), (1, iv to), (2, .one (.fn cl [])), (6, iv at_), (70, iv n), (71, iv i), (1000001, .any)], tabO [(1000001, siCv v l a ev up)], tabO [(1000002, staRow s.st), (1000003, stdRow s.td), (1000004, ignV v s.ig)]⟩
theorem appE_len (l : List Alm) (a : List Opr) (e : Ev) (s : Sit) : (appE l a e s).st.length = s.st.length ∧ (appE l a e s).td = s.td ∧ (appE l a e s).ig.length ≤ s.ig.length + 1 := by
 unfold appE
 split
 ·split
  ·exact ⟨rfl, rfl, by simp⟩
  ·refine ⟨by simp, rfl, ?_⟩
   dsimp only
   split
   ·omega
   ·simp
 ·exact ⟨by simp, rfl, by simp⟩
def rptX (up : List (List Int)) (at_ : Int) (i : Nat) (s : Sit) : Sit := if repX up s.st i ≠ (s.td.getD i default).st then { s with td := s.td.set i ⟨(s.td.getD i default).al, repX up s.st i, at_⟩, out := s.out ++ [⟨(s.td.getD i default).al, repX up s.st i, at_⟩] } else s
theorem rptE_succ (up : List (List Int)) (at_ : Int) (n i : Nat) (s : Sit) : rptE up at_ (n + 1) i s = rptE up at_ n (i + 1) (rptX up at_ i s) := rfl
theorem rptX_len (up : List (List Int)) (at_ : Int) (i : Nat) (s : Sit) : (rptX up at_ i s).st = s.st ∧ (rptX up at_ i s).td.length = s.td.length ∧ (rptX up at_ i s).ig = s.ig := by
 unfold rptX
 split
 ·exact ⟨rfl, by simp, rfl⟩
 ·exact ⟨rfl, rfl, rfl⟩
theorem kvR (v : Nat) (h : v ≤ 1) : kv 1000004 v = v := by
 unfold kv; rw [if_neg (by simp [XK])]; omega
theorem kvS (v : Nat) : kv 1000004 (v + 1) = 1 := by
 unfold kv; rw [if_neg (by simp [XK])]; omega
attribute [go_sem] kvR kvS
theorem runE_nil {l : List Alm} {a : List Opr} {to : Int} {ev : List Ev} {s : Sit} (h : ev.length = 0) : runE l a to ev s = s ∧ restR to ev = ev := by
 have := List.length_eq_zero_iff.1 h
 subst this; exact ⟨rfl, rfl⟩
theorem hdAt_of {ev : List Ev} (t : Int) : hdAt ev t = decide (0 < ev.length ∧ (ev.getD (Int.toNat 0) default).a = t) := by
 cases ev with
 | nil => rfl
 | cons e r => simp [hdAt]
theorem runE_pos {l : List Alm} {a : List Opr} {to : Int} {ev : List Ev} {s : Sit} (h : 0 < ev.length) : runE l a to ev s = (if to < (ev.getD (Int.toNat 0) default).a then s else runE l a to (ev.drop (Int.toNat 1)) (if hdAt (ev.drop (Int.toNat 1)) (ev.getD (Int.toNat 0) default).a = true then appE l a (ev.getD (Int.toNat 0) default) s else rptE (upA l) (ev.getD (Int.toNat 0) default).a l.length 0 (appE l a (ev.getD (Int.toNat 0) default) s))) ∧ restR to ev = if to < (ev.getD (Int.toNat 0) default).a then ev else restR to (ev.drop (Int.toNat 1)) := by
 cases ev with
 | nil => simp at h
 | cons e r => exact ⟨rfl, rfl⟩
structure RuI (l : List Alm) (a : List Opr) (ev : List Ev) (s : Sit) (v : Nat) : Prop where
 n1 : s.st.length = l.length
 n2 : s.td.length = l.length
 ok : ∀ e ∈ ev, EvOk l.length a.length e
 ig : s.ig.length + ev.length ≤ 1000000
 v1 : v ≤ 1
theorem RuI.next {l : List Alm} {a : List Opr} {ev : List Ev} {s : Sit} {v : Nat} (h : RuI l a ev s v) (h0 : 0 < ev.length) : RuI l a (ev.drop (Int.toNat 1)) (appE l a (ev.getD (Int.toNat 0) default) s) 1 := by
 obtain ⟨n1, n2, ok, hig, hv⟩ := h
 obtain ⟨a1, a2, a3⟩ := appE_len l a (ev.getD (Int.toNat 0) default) s
 refine ⟨by omega, by rw [a2]; exact n2, fun e he => ok e (List.mem_of_mem_drop he), ?_, by omega⟩
 rw [List.length_drop]; omega
set_option maxHeartbeats 8000000 in
theorem run_fcm (cl : FuncId) (hcl : ∀ x : Std, FC Tryz.prog cl none [.ag (stdS x)] (fun _ r => r = .tu [])) (l : List Alm) (a : List Opr) (ev0 : List Ev) (to : Int) (s0 : Sit) (hl : l.length ≤ 200) (ha : a.length ≤ 1000000)
  (hup : ∀ x ∈ l, ∀ k ∈ parA l (l.length + 1) x, 0 ≤ k ∧ k < l.length) (h0 : RuI l a ev0 s0 0) :
  FCMS Tryz.prog 38 [1000002, 1000003] (siH l a ev0 (upA l) s0) [.one (.bx 1000001 0), iv to, .one (.fn cl [])] (fun H r => H = siH l a (restR to ev0) (upA l) (runE l a to ev0 s0) ∧ r = .tu []) := by
 refine fcms_run (K := ⟨[], [1000001], [1000002, 1000003, 1000004]⟩) (by simp +arith) (by simp [XK]) (by simp [XK]) ?_
 generalize hT0 : runE l a to ev0 s0 = T
 generalize hR0 : restR to ev0 = R
 have hup2 : (upA l).length = l.length := by simp [upA]
 have hup3 : ∀ i : Int, 0 ≤ i → i < l.length → (∀ k ∈ (upA l).getD i.toNat default, 0 ≤ k ∧ k < l.length) ∧ ((upA l).getD i.toNat default).length ≤ 1000000 := fun i h1 h2 => by
  have e : (upA l).getD i.toNat default = parA l (l.length + 1) (l.getD i.toNat default) := getD_map_in (fun x => parA l (l.length + 1) x) l i.toNat default (by omega)
  rw [e]
  exact ⟨hup _ (getD_mem l _ (by omega)), Nat.le_trans (parA_len l _ _) (by omega)⟩
 have hua : ∀ n i s at_, rptE (upA l) at_ n i s = rptE (upA l) at_ n i s := fun _ _ _ _ => rfl
 unfold C_run
 simp (maxSteps := 1000000) (disch := omega) only [go_sem]
 refine ex_loop4 (fun ev s v w => ru1St cl l a (upA l) to ev s v w) (fun ev s v _ => RuI l a ev s v ∧ runE l a to ev s = T ∧ restR to ev = R) (fun ev _ _ _ => ev.length) ev0 s0 0 (.any, .any, .any, .any) ⟨h0, hT0, hR0⟩ (by
  have : ∀ u0 u1 u2 : Val, tabV [(0, u0), (1, u1), (2, u2)] = tabV [(0, u0), (1, u1), (2, u2), (6, .any), (70, .any), (71, .any), (72, .any), (1000001, .any)] := fun u0 u1 u2 => by funext n; simp only [tabV, ite_self]
  unfold ru1St
  rw [← this]) ?_
 rintro ev s v ⟨w1, w2, w3, w4⟩ ⟨hI, hT, hR⟩
 obtain ⟨n1, n2, ok, hig, hv⟩ := id hI
 unfold ru1St
 by_cases h0 : ev.length = 0
 ·obtain ⟨r1, r2⟩ := runE_nil (l := l) (a := a) (to := to) (s := s) h0
  rw [hT] at r1
  rw [hR] at r2
  rw [r1, r2]
  simp (maxSteps := 1000000) (disch := omega) only [go_sem]
 ·obtain ⟨r1, r2⟩ := runE_pos (l := l) (a := a) (to := to) (s := s) (show 0 < ev.length by omega)
  rw [hT] at r1
  rw [hR] at r2
  by_cases hto : to < (ev.getD (Int.toNat 0) default).a
  ·rw [if_pos hto] at r1 r2
   rw [r1, r2]
   simp (maxSteps := 1000000) (disch := omega) only [go_sem]
  ·rw [if_neg hto] at r1 r2
   have ez : Int.toNat 0 = 0 := rfl
   simp (maxSteps := 1000000) (disch := omega) only [go_sem]
   clear r1 r2
   refine ex_loop3 (fun ev' s' v' => ru2St cl l a (upA l) to (ev.getD (Int.toNat 0) default).a ev' s' v') (fun ev' s' v' => RuI l a ev' s' v' ∧ ev'.length ≤ ev.length ∧ (ev'.length = ev.length → ev' = ev) ∧ restR to ev' = R ∧ (hdAt ev' (ev.getD (Int.toNat 0) default).a = true → runE l a to ev' s' = T) ∧ (hdAt ev' (ev.getD (Int.toNat 0) default).a = false → ev'.length < ev.length ∧ runE l a to ev' (rptE (upA l) (ev.getD (Int.toNat 0) default).a l.length 0 s') = T)) (fun ev' _ _ => ev'.length) ev s v ⟨hI, Nat.le_refl _, fun _ => rfl, hR, fun _ => hT, fun h => by rw [hdAt_of, decide_eq_false_iff_not] at h; exact absurd ⟨by omega, rfl⟩ h⟩ rfl ?_
   generalize hat : (ev.getD (Int.toNat 0) default).a = at_ at *
   rintro ev' s' v' ⟨hI', l1, l2, hR', c1, c2⟩
   obtain ⟨n1', n2', ok', hig', hv'⟩ := id hI'
   unfold ru2St
   by_cases hh : 0 < ev'.length ∧ (ev'.getD (Int.toNat 0) default).a = at_
   ·have c1 := c1 (by rw [hdAt_of, decide_eq_true hh])
    obtain ⟨p1, p2⟩ := runE_pos (l := l) (a := a) (to := to) (s := s') hh.1
    rw [c1, if_neg (by omega)] at p1
    rw [hR', if_neg (by omega)] at p2
    have hap := apply_fcm l a ev' (upA l) s' (ev'.getD (Int.toNat 0) default) n1' (by omega) (by omega) (by omega) (ok' _ (getD_mem _ _ (by omega)))
    obtain ⟨hh1, hh2⟩ := hh
    rw [evS_eq] at hap
    simp (maxSteps := 1000000) (disch := omega) only [go_sem]
    refine ⟨rfl, CALLM_det hap ⟨rfl, rfl⟩ ?_⟩
    simp (maxSteps := 1000000) (disch := omega) only [go_sem]
    rw [hh2] at p1
    refine ⟨ev'.drop (Int.toNat 1), appE l a (ev'.getD (Int.toNat 0) default) s', 1, by simp only [siCv, List.map_drop], ⟨hI'.next hh1, by rw [List.length_drop]; omega, fun h => by rw [List.length_drop] at h; have : Int.toNat 1 = 1 := rfl; omega, p2.symm, fun h => ?_, fun h => ⟨by rw [List.length_drop]; have : Int.toNat 1 = 1 := rfl; omega, ?_⟩⟩, by rw [List.length_drop]; have : Int.toNat 1 = 1 := rfl; omega⟩
    ·rw [p1, if_pos h]
    ·rw [p1, if_neg (by rw [h]; simp)]
   ·obtain ⟨c3, c4⟩ := c2 (by rw [hdAt_of, decide_eq_false hh])
    clear c1 c2 hI
    have hst : s'.st.length = l.length := n1'
    have hz : ev'.length = 0 ∨ (0 < ev'.length ∧ (ev'.getD (Int.toNat 0) default).a ≠ at_) := by
     by_cases hz : ev'.length = 0
     ·exact .inl hz
     ·exact .inr ⟨by omega, fun h => hh ⟨by omega, h⟩⟩
    rcases hz with hz | ⟨hz, hne⟩
    all_goals
     simp (maxSteps := 1000000) (disch := omega) only [go_sem]
     refine ex_loop2 (fun i s'' => ru3St cl l a (upA l) to at_ ev' l.length i s'' v') (fun i s'' => 0 ≤ i ∧ i ≤ l.length ∧ s''.st = s'.st ∧ s''.td.length = s'.td.length ∧ s''.ig = s'.ig ∧ rptE (upA l) at_ (l.length - i).toNat i.toNat s'' = rptE (upA l) at_ l.length 0 s') (fun i _ => (l.length - i).toNat) 0 s' ⟨by omega, by omega, rfl, rfl, rfl, rfl⟩ rfl ?_
     rintro i s2 ⟨i1, i2, i3, i4, i5, i6⟩
     unfold ru3St
     by_cases hi : i < l.length
     ·have hu := hup3 i i1 hi
      have hrp := rep_fcm l a ev' (upA l) s2 i i1 (by rw [i3]; omega) (by rw [i3]; omega) (by rw [i3, n1']; exact hu.1) (by rw [i3]; omega) hu.2
      have et := getD_map_at stdS s2.td i [] i1 (by omega)
      have et2 := getE_map_in stdS s2.td i.toNat (by omega)
      obtain ⟨x1, x2, x3⟩ := rptX_len (upA l) at_ i.toNat s2
      rw [show (l.length - i).toNat = (l.length - (i + 1)).toNat + 1 by omega, rptE_succ, show i.toNat + 1 = (i + 1).toNat by omega] at i6
      have hxr : rptX (upA l) at_ i.toNat s2 = if repX (upA l) s2.st i.toNat ≠ (s2.td.getD i.toNat default).st then { s2 with td := s2.td.set i.toNat ⟨(s2.td.getD i.toNat default).al, repX (upA l) s2.st i.toNat, at_⟩, out := s2.out ++ [⟨(s2.td.getD i.toNat default).al, repX (upA l) s2.st i.toNat, at_⟩] } else s2 := rfl
      generalize hrx : repX (upA l) s2.st i.toNat = rx at *
      generalize hry : rptX (upA l) at_ i.toNat s2 = ry at *
      by_cases hc : rx = (s2.td.getD i.toNat default).st
      ·rw [if_neg (by simpa using hc)] at hxr
       simp (maxSteps := 1000000) (disch := omega) only [go_sem]
       refine ⟨rfl, CALLM_det hrp ⟨rfl, rfl⟩ ?_⟩
       simp (maxSteps := 1000000) (disch := omega) only [go_sem]
       subst hxr
       exact ⟨i + 1, ry, rfl, ⟨by omega, by omega, by omega, by omega, by omega, i6⟩, by omega⟩
      ·rw [if_pos hc] at hxr
       have hcx := hcl ⟨(s2.td.getD i.toNat default).al, rx, at_⟩
       simp (maxSteps := 1000000) (disch := omega) only [go_sem]
       refine ⟨rfl, CALLM_det hrp ⟨rfl, rfl⟩ ?_⟩
       simp (maxSteps := 1000000) (disch := omega) only [go_sem]
       refine CALL_det hcx (.inl rfl) ?_
       simp (maxSteps := 1000000) (disch := omega) only [go_sem]
       refine ⟨i + 1, ry, ?_, ⟨by omega, by omega, by rw [x1, i3], by omega, by rw [x3, i5], i6⟩, by omega⟩
       rw [hxr]
       simp only [stdRow, List.map_set, stdS_eq]
     ·rw [show (l.length - i).toNat = 0 by omega, rptE] at i6
      rw [← i6] at c4
      simp (maxSteps := 1000000) (disch := omega) only [go_sem]
      exact ⟨ev', s2, v', (_, _, _, _), rfl, ⟨⟨by rw [i3]; omega, by omega, ok', by rw [i5]; omega, hv'⟩, c4, hR'⟩, by omega⟩
end Go.Proofs.YtcagelfmngmocaaGreatDoor

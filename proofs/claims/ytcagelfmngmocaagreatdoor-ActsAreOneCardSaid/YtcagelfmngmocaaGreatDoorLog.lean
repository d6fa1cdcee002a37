
/-
 The log of alarms: all changes within a window.
-/
import Derived.Test.YtcagelfmngmocaaGreatDoorSns
namespace Go.Proofs.YtcagelfmngmocaaGreatDoor
open Go Go.Ai
set_option linter.unusedSimpArgs false
set_option linter.unusedVariables false
set_option maxHeartbeats 4000000
def C_aWindow : AC := (.seq (.reg false [gI 1 (.box (.t 0)),gI 2 (.mv (.v (.bool false)))] (kP [1] [1] []))
 (.seq (.reg false [gI 3 (.fadr 0 (.t 1)),gI 4 (.load false 1 (.t 3)),gI 5 (.fadr 1 (.t 1)),gI 6 (.load false 1 (.t 5)),gI 7 (.call (.f 46) [(.t 4),(oI 0),(.t 6)]),gI 8 (.un .not (.t 7)),gM 9 8,gG 10 9 true (.fadr 1 (.t 1)),gG 11 9 true (.load false 1 (.t 10)),gG 12 9 true (.bin .leq (.t 11) (oI 345686400000)),gI 13 (.pick (.t 9) (.t 12) (.v (.bool false))),gM 2 13] (kP [2] [] []))
 .ret))
theorem fc_aWindow : FcT Tryz.prog 92 Tryz.f92 C_aWindow [.t 2] := fc_mk [aN [1] [1] [],aN [2] [] []] Tryz.func92 (by kernel_rfl)
def C_awFault : AC := (.seq (.reg false [gI 7 (.box (.t 3)),gI 8 (.mv (oI 0))] (kP [0,1,2,7] [7] []))
 (.seq (.reg false [gM 10 0,gM 11 1,gM 12 2,gI 13 (.call (.f 41) [(.t 10),(.t 11),(.t 12)]),gM 9 13] (kP [7,9] [7] []))
 (.seq (.seq (.reg false [gM 14 9,gI 15 (.bin .eql (.t 14) (oI 0)),gM 16 15,gG 17 16 true (.load true 2 (.t 7)),gG 18 16 true (.call (.f 92) [(.t 17)]),gG 19 16 true (.un .not (.t 18)),gI 20 (.pick (.t 16) (.t 19) (.v (.bool false)))] (kP [9,20] [] []))
 (.cond (.t 20)
 (.reg false [gI 9 (.mv (oI 1))] (kP [9] [] []))
 .skip))
 (.seq (.reg false [gM 21 9,gM 8 21] (kP [8] [] []))
 .ret))))
theorem fc_awFault : FcT Tryz.prog 36 Tryz.f36 C_awFault [.t 8] := fc_mk [aN [0,1,2,7] [7] [],aN [7,9] [7] [],aN [9,20] [] [],aN [9] [] [],aN [8] [] []] Tryz.func36 (by kernel_rfl)
def C_log : AC := (.seq (.reg false [gI 7 (.box (.t 3)),gI 8 (.mv (.v (.slice none 0 0))),gI 9 (.mv (oI 0))] (kP [0,1,2,7] [7] [11,9019,500021,600021]))
 (.seq (.seq (.reg false [gM 12 0,gM 13 1,gM 14 2,gI 15 (.load true 2 (.t 7)),gI 16 (.call (.f 36) [(.t 12),(.t 13),(.t 14),(.t 15)]),gM 10 16] (kP [0,1,2,7,10] [7] [11,9019,500021,600021]))
 (.seq (.reg false [gM 17 10,gI 18 (.bin .neq (.t 17) (oI 0))] (kP [0,1,2,7,10,18] [7] [11,9019,500021,600021]))
 (.cond (.t 18)
 (.seq (.seq (.reg false [gM 19 10,gI 8 (.mv (.v (.slice none 0 0))),gM 9 19] (kP [8,9] [] [11]))
 (.ty 8 3))
 .ret)
 .skip)))
 (.seq (.seq (.reg false [gI 11 (.alloc [(.slice none 0 0)])] (kP [0,1,2,7,11] [7,11] [9019,500021,600021]))
 (.ownb 11 0 11 42 3))
 (.seq (.reg true [gM 20 0,gM 21 1,gM 22 2,gI 23 (.callm (.f 37) [(.t 20),(.t 21),(.t 22)] ⟨[],[],[9021],[9019,500021,600021],[]⟩),gN (.chk (.t 7) (some 7)),gI 24 (.fadr 1 (.t 7)),gN (.chk (.t 24) (some 7)),gI 25 (.load false 1 (.t 24)),gI 26 (.bin .sub (.t 25) (oI 1)),gI 27 (.mkfn 39 [(.t 7),(.t 11)]),gI 28 (.callm (.f 38) [(.t 23),(.t 26),(.t 27)] ⟨[9021,7,11],[9019,500021,600021,11],[9021,7,11],[9019,500021,600021,11],[9019,500021]⟩)] (kP [11] [11] [11]))
 (.seq (.reg false [gI 29 (.load false 1 (.t 11)),gM 8 29,gI 9 (.mv (oI 0))] (kP [8,9] [] [11]))
 .ret)))))
theorem fcm_log : FmT Tryz.prog 11 Tryz.f11 C_log [.t 8, .t 9] := fcm_mk [aN [0,1,2,7] [7] [11,9019,500021,600021],aN [0,1,2,7,10] [7] [11,9019,500021,600021],aN [0,1,2,7,10,18] [7] [11,9019,500021,600021],⟨(kP [8,9] [] [11]),[],[],[(8,3)],[]⟩,⟨(kP [0,1,2,7,11] [7,11] [9019,500021,600021]),[(1000011,42,3)],[],[],[]⟩,⟨(kP [11] [11] [11]),[],[(4,(some 7)),(5,(some 7))],[],[(23,⟨[],[],[9021],[9019,500021,600021],[]⟩),(28,⟨[9021,7,11],[9019,500021,600021,11],[9021,7,11],[9019,500021,600021,11],[9019,500021]⟩)]⟩,aN [8,9] [] [11]] Tryz.func11 (by kernel_rfl)
def C_aIn : AC := (.seq (.reg false [gI 2 (.box (.t 0)),gI 4 (.mv (.v (.bool false)))] (kP [1,2] [2] []))
 (.seq (.reg false [gM 5 1,gI 6 (.fadr 0 (.t 2)),gI 7 (.load false 1 (.t 6)),gI 8 (.bin .geq (.t 5) (.t 7)),gM 9 8,gG 10 9 true (.mv (.t 1)),gG 11 9 true (.fadr 1 (.t 2)),gG 12 9 true (.load false 1 (.t 11)),gG 13 9 true (.bin .lss (.t 10) (.t 12)),gI 14 (.pick (.t 9) (.t 13) (.v (.bool false))),gM 4 14] (kP [4] [] []))
 .ret))
theorem fc_aIn : FcT Tryz.prog 40 Tryz.f40 C_aIn [.t 4] := fc_mk [aN [1,2] [2] [],aN [4] [] []] Tryz.func40 (by kernel_rfl)
def C_logC : AC := (.seq (.reg false [gI 3 (.box (.t 0))] (kP [1,2,3,1000005,1000006] [3,1000005,1000006] [1000007]))
 (.seq (.reg false [gI 4 (.load true 2 (.t 1)),gI 5 (.fadr 2 (.t 3)),gI 6 (.load false 1 (.t 5)),gI 7 (.call (.f 40) [(.t 4),(.t 6)])] (kP [2,3,7,1000006] [3,1000005,1000006] [1000007]))
 (.cond (.t 7)
 (.reg false [gI 8 (.load false 1 (.t 2)),gI 9 (.load true 3 (.t 3)),gI 10 (.bslice 3 1 [(.t 9)]),gI 11 (.append 42 3 32 (.t 8) (.t 10)),gN (.store 1 (.t 2) (.t 11))] (kP [] [1000005,1000006] [1000007]))
 .skip)))
theorem fcm_logC : FmT Tryz.prog 39 Tryz.f39 C_logC [] := fcm_mk [aN [1,2,3,1000005,1000006] [3,1000005,1000006] [1000007],aN [2,3,7,1000006] [3,1000005,1000006] [1000007],aN [] [1000005,1000006] [1000007]] Tryz.func39 (by kernel_rfl)
def C_runL : AC := (.block 0 (.loop (.seq (.seq (.reg false [gM 9 0,gI 10 (.nilchk (.t 9)),gI 11 (.fadr 2 (.t 10)),gI 12 (.load false 1 (.t 11)),gI 13 (.len (.t 12)),gI 14 (.bin .gtr (.t 13) (oI 0)),gM 15 14,gG 16 15 true (.mv (.t 0)),gG 17 15 true (.nilchk (.t 16)),gG 18 15 true (.fadr 2 (.t 17)),gG 19 15 true (.load false 1 (.t 18)),gG 20 15 true (.iadr 5 (.t 19) (oI 0)),gG 21 15 true (.fadr 0 (.t 20)),gG 22 15 true (.load false 1 (.t 21)),gG 23 15 true (.mv (.t 1)),gG 24 15 true (.bin .leq (.t 22) (.t 23)),gI 25 (.pick (.t 15) (.t 24) (.v (.bool false)))] (kP [0,1,2,25,1000001,1000005] [1000001,1000005,1000006] [1000002,1000003,1000004,1000007]))
 (.cond (.t 25)
 .skip
 (.exit 0)))
 (.block 1 (.seq (.reg false [gM 26 0,gI 27 (.nilchk (.t 26)),gI 28 (.fadr 2 (.t 27)),gI 29 (.load false 1 (.t 28)),gI 30 (.iadr 5 (.t 29) (oI 0)),gI 31 (.fadr 0 (.t 30)),gI 32 (.load false 1 (.t 31)),gM 6 32] (kP [0,1,2,6,1000001,1000005] [1000001,1000005,1000006] [1000002,1000003,1000004,1000007]))
 (.seq (.block 2 (.loop (.seq (.seq (.reg false [gM 33 0,gI 34 (.nilchk (.t 33)),gI 35 (.fadr 2 (.t 34)),gI 36 (.load false 1 (.t 35)),gI 37 (.len (.t 36)),gI 38 (.bin .gtr (.t 37) (oI 0)),gM 39 38,gG 40 39 true (.mv (.t 0)),gG 41 39 true (.nilchk (.t 40)),gG 42 39 true (.fadr 2 (.t 41)),gG 43 39 true (.load false 1 (.t 42)),gG 44 39 true (.iadr 5 (.t 43) (oI 0)),gG 45 39 true (.fadr 0 (.t 44)),gG 46 39 true (.load false 1 (.t 45)),gG 47 39 true (.mv (.t 6)),gG 48 39 true (.bin .eql (.t 46) (.t 47)),gI 49 (.pick (.t 39) (.t 48) (.v (.bool false)))] (kP [0,1,2,6,49,1000001,1000005] [1000001,1000005,1000006] [1000002,1000003,1000004,1000007]))
 (.cond (.t 49)
 .skip
 (.exit 2)))
 (.block 3 (.seq (.reg false [gM 50 0,gM 51 0,gI 52 (.nilchk (.t 51)),gI 53 (.fadr 2 (.t 52)),gI 54 (.load false 1 (.t 53)),gI 55 (.iadr 5 (.t 54) (oI 0)),gI 56 (.load true 5 (.t 55)),gI 57 (.callm (.f 98) [(.t 50),(.t 56)] ⟨[1000001],[1000002,1000003,1000004],[1000001],[1000002,1000003,1000004],[1000002,1000003]⟩)] (kP [0,1,2,6,1000001,1000005] [1000001,1000005,1000006] [1000002,1000003,1000004,1000007]))
 (.reg false [gM 58 0,gM 59 0,gI 60 (.nilchk (.t 59)),gI 61 (.fadr 2 (.t 60)),gI 62 (.load false 1 (.t 61)),gI 63 (.slc 5 (.t 62) (some (oI 1)) none),gI 64 (.nilchk (.t 58)),gI 65 (.fadr 2 (.t 64)),gN (.store 1 (.t 65) (.t 63))] (kP [0,1,2,6,1000001,1000005] [1000001,1000005,1000006] [1000002,1000003,1000004,1000007])))))))
 (.seq (.reg false [gM 66 0,gI 67 (.nilchk (.t 66)),gI 68 (.fadr 0 (.t 67)),gI 69 (.load false 1 (.t 68)),gI 70 (.len (.t 69)),gI 71 (.mv (oI 0))] (kP [0,1,2,6,70,71,1000001,1000005] [1000001,1000005,1000006] [1000002,1000003,1000004,1000007]))
 (.block 4 (.loop (.seq (.reg false [gI 72 (.bin .lss (.t 71) (.t 70))] (kP [0,1,2,6,70,71,72,1000001,1000005] [1000001,1000005,1000006] [1000002,1000003,1000004,1000007]))
 (.seq (.cond (.t 72)
 .skip
 (.exit 4))
 (.seq (.block 5 (.seq (.reg false [gM 73 71,gM 7 73] (kP [0,1,2,6,7,70,71,1000001,1000005] [1000001,1000005,1000006] [1000002,1000003,1000004,1000007]))
 (.seq (.reg false [gM 74 0,gM 75 7,gI 76 (.callm (.f 99) [(.t 74),(.t 75)] ⟨[1000001],[1000002,1000003,1000004],[1000001],[1000002,1000003,1000004],[1000002,1000003,1000004]⟩),gM 8 76] (kP [0,1,2,6,7,8,70,71,1000001,1000005] [1000001,1000005,1000006] [1000002,1000003,1000004,1000007]))
 (.seq (.reg false [gM 77 8,gM 78 0,gI 79 (.nilchk (.t 78)),gI 80 (.fadr 5 (.t 79)),gI 81 (.load false 1 (.t 80)),gM 82 7,gI 83 (.iadr 3 (.t 81) (.t 82)),gI 84 (.fadr 1 (.t 83)),gI 85 (.load false 1 (.t 84)),gI 86 (.bin .neq (.t 77) (.t 85))] (kP [0,1,2,6,7,8,70,71,86,1000001,1000005] [1000001,1000005,1000006] [1000002,1000003,1000004,1000007]))
 (.cond (.t 86)
 (.seq (.reg true [gM 87 0,gI 88 (.nilchk (.t 87)),gI 89 (.fadr 5 (.t 88)),gI 90 (.load false 1 (.t 89)),gM 91 7,gM 92 0,gI 93 (.nilchk (.t 92)),gI 94 (.fadr 5 (.t 93)),gI 95 (.load false 1 (.t 94)),gM 96 7,gM 97 8,gM 98 6,gI 99 (.iadr 3 (.t 90) (.t 91)),gI 100 (.fadr 1 (.t 99)),gN (.store 1 (.t 100) (.t 97)),gI 101 (.iadr 3 (.t 95) (.t 96)),gI 102 (.fadr 2 (.t 101)),gN (.store 1 (.t 102) (.t 98))] (kP [0,1,2,6,7,70,71,1000001,1000005] [1000001,1000005,1000006] [1000002,1000003,1000004,1000007]))
 (.reg false [gM 103 2,gM 104 0,gI 105 (.nilchk (.t 104)),gI 106 (.fadr 5 (.t 105)),gI 107 (.load false 1 (.t 106)),gM 108 7,gI 109 (.iadr 3 (.t 107) (.t 108)),gI 110 (.load true 3 (.t 109)),gI 111 (.callm (.t 103) [(.t 110)] ⟨[1000005,1000006],[1000007],[1000005,1000006],[1000007],[]⟩)] (kP [0,1,2,6,70,71,1000001,1000005] [1000001,1000005,1000006] [1000002,1000003,1000004,1000007])))
 .skip)))))
 (.reg false [gI 112 (.bin .add (.t 71) (oI 1)),gM 71 112] (kP [0,1,2,6,70,71,1000001,1000005] [1000001,1000005,1000006] [1000002,1000003,1000004,1000007]))))))))))))))
theorem fcms_runL : FsT Tryz.prog 38 Tryz.f38 C_runL [] := fcms_mk [aN [0,1,2,25,1000001,1000005] [1000001,1000005,1000006] [1000002,1000003,1000004,1000007],aN [0,1,2,6,1000001,1000005] [1000001,1000005,1000006] [1000002,1000003,1000004,1000007],aN [0,1,2,6,49,1000001,1000005] [1000001,1000005,1000006] [1000002,1000003,1000004,1000007],⟨(kP [0,1,2,6,1000001,1000005] [1000001,1000005,1000006] [1000002,1000003,1000004,1000007]),[],[],[],[(57,⟨[1000001],[1000002,1000003,1000004],[1000001],[1000002,1000003,1000004],[1000002,1000003]⟩)]⟩,aN [0,1,2,6,1000001,1000005] [1000001,1000005,1000006] [1000002,1000003,1000004,1000007],aN [0,1,2,6,70,71,1000001,1000005] [1000001,1000005,1000006] [1000002,1000003,1000004,1000007],aN [0,1,2,6,70,71,72,1000001,1000005] [1000001,1000005,1000006] [1000002,1000003,1000004,1000007],aN [0,1,2,6,7,70,71,1000001,1000005] [1000001,1000005,1000006] [1000002,1000003,1000004,1000007],⟨(kP [0,1,2,6,7,8,70,71,1000001,1000005] [1000001,1000005,1000006] [1000002,1000003,1000004,1000007]),[],[],[],[(76,⟨[1000001],[1000002,1000003,1000004],[1000001],[1000002,1000003,1000004],[1000002,1000003,1000004]⟩)]⟩,aN [0,1,2,6,7,8,70,71,86,1000001,1000005] [1000001,1000005,1000006] [1000002,1000003,1000004,1000007],aN [0,1,2,6,7,70,71,1000001,1000005] [1000001,1000005,1000006] [1000002,1000003,1000004,1000007],⟨(kP [0,1,2,6,70,71,1000001,1000005] [1000001,1000005,1000006] [1000002,1000003,1000004,1000007]),[],[],[],[(111,⟨[1000005,1000006],[1000007],[1000005,1000006],[1000007],[]⟩)]⟩,aN [0,1,2,6,70,71,1000001,1000005] [1000001,1000005,1000006] [1000002,1000003,1000004,1000007]] Tryz.func38 (by kernel_rfl)
def inW (f t : Int) (z : Std) : Bool := decide (f ≤ z.si ∧ z.si < t)
def lgF (f t : Int) (o : List Std) : List Std := o.filter (inW f t)
def lgF1 (f t : Int) (o : List Std) (x : Std) : List Std := if inW f t x = true then o ++ [x] else o
theorem lgF_snoc (f t : Int) (o : List Std) (x : Std) : lgF f t (o ++ [x]) = lgF1 f t (lgF f t o) x := by
 unfold lgF lgF1
 rw [List.filter_append]
 by_cases h : inW f t x = true
 ·rw [if_pos h]; simp [h]
 ·rw [if_neg h]; simp [h]
theorem lgF_le (f t : Int) (o : List Std) : (lgF f t o).length ≤ o.length := List.length_filter_le _ _
theorem appE_out (l : List Alm) (a : List Opr) (e : Ev) (s : Sit) : (appE l a e s).out = s.out := by
 unfold appE
 split
 ·split <;> rfl
 ·rfl
theorem kvR7 (v : Nat) (h : v ≤ 1) : kv 1000007 v = v := by
 unfold kv; rw [if_neg (by simp [XK])]; omega
theorem kvS7 (v : Nat) : kv 1000007 (v + 1) = 1 := by
 unfold kv; rw [if_neg (by simp [XK])]; omega
attribute [go_sem] kvR7 kvS7
abbrev stdV (v : Nat) (l : List Std) : Row := ⟨v, 42, 3, l.map stdS⟩
abbrev lgH (f t : Int) (o : List Std) : Hp := ⟨[(1000005, [.g (.int .i64 f), .g (.int .i64 t)]), (1000006, [.ow 1000007 0])], [(1000007, stdRow o)]⟩
abbrev slH (f t : Int) (l : List Alm) (a : List Opr) (ev : List Ev) (up : List (List Int)) (s : Sit) : Hp := ⟨[(1000001, siC l a ev up), (1000005, [.g (.int .i64 f), .g (.int .i64 t)]), (1000006, [.ow 1000007 0])], [(1000002, staRow s.st), (1000003, stdRow s.td), (1000004, ignRow s.ig), (1000007, stdRow (lgF f t s.out))]⟩
theorem aIn_fc (f t a : Int) : FC Tryz.prog 40 none [.ag [.g (.int .i64 f), .g (.int .i64 t)], iv a] (fun _ r => r = bv (decide (f ≤ a ∧ a < t))) := by
 refine fc_aIn (by simp +arith) ?_
 unfold C_aIn
 by_cases h : f ≤ a
 ·simp (maxSteps := 1000000) (disch := omega) only [go_sem]
  exact bv_congr (by first | (simp; done) | (simp; omega))
 ·simp (maxSteps := 1000000) (disch := omega) only [go_sem]
  exact bv_congr (by first | (simp; done) | (simp; omega))
theorem logC_fcm (f t : Int) (x : Std) (o : List Std) (ho : o.length ≤ 200000000) : FCM Tryz.prog 39 (lgH f t o) [.ag (stdS x), .one (.bx 1000005 0), .one (.bx 1000006 0)] (fun H r => H = lgH f t (lgF1 f t o x) ∧ r = .tu []) := by
 refine fcm_logC (K := ⟨[], [1000005, 1000006], [1000007]⟩) (by simp +arith) (by simp [XK]) (by simp [XK]) ?_
 have hi := aIn_fc f t x.si
 unfold C_logC lgF1
 by_cases h : inW f t x = true
 ·rw [if_pos h]
  rw [show decide (f ≤ x.si ∧ x.si < t) = inW f t x from rfl, h] at hi
  simp (maxSteps := 1000000) (disch := omega) only [go_sem]
  refine CALL_det hi (.inl rfl) ?_
  simp (maxSteps := 1000000) (disch := omega) only [go_sem]
  simp [stdS_eq]
 ·rw [if_neg h]
  rw [show decide (f ≤ x.si ∧ x.si < t) = inW f t x from rfl, Bool.eq_false_iff.2 h] at hi
  simp (maxSteps := 1000000) (disch := omega) only [go_sem]
  refine CALL_det hi (.inl rfl) ?_
  simp (maxSteps := 1000000) (disch := omega) only [go_sem]
def rl1St (cl : FuncId) (f t : Int) (l : List Alm) (a : List Opr) (up : List (List Int)) (to : Int) (ev : List Ev) (s : Sit) (v : Nat × Nat) (w : Val × Val × Val × Val) : AS := ⟨tabV [(0, .one (.bx 1000001 0)), (1, iv to), (2, .one (.fn cl [.bx 1000005 0, .bx 1000006 0])), (6, w.1), (70, w.2.1), (71, w.2.2.1), (72, w.2.2.2), (1000001, .any), (1000005, .any)], tabO [(1000001, siCv v.1 l a ev up), (1000005, [.g (.int .i64 f), .g (.int .i64 t)]), (1000006, [.ow 1000007 v.2])], tabO [(1000002, staRow s.st), (1000003, stdRow s.td), (1000004, ignV v.1 s.ig), (1000007, stdV v.2 (lgF f t s.out))]⟩
def rl2St (cl : FuncId) (f t : Int) (l : List Alm) (a : List Opr) (up : List (List Int)) (to at_ : Int) (ev : List Ev) (s : Sit) (v : Nat × Nat) : AS := ⟨tabV [(0, .one (.bx 1000001 0)), (1, iv to), (2, .one (.fn cl [.bx 1000005 0, .bx 1000006 0])), (6, iv at_), (1000001, .any), (1000005, .any)], tabO [(1000001, siCv v.1 l a ev up), (1000005, [.g (.int .i64 f), .g (.int .i64 t)]), (1000006, [.ow 1000007 v.2])], tabO [(1000002, staRow s.st), (1000003, stdRow s.td), (1000004, ignV v.1 s.ig), (1000007, stdV v.2 (lgF f t s.out))]⟩
def rl3St (cl : FuncId) (f t : Int) (l : List Alm) (a : List Opr) (up : List (List Int)) (to at_ : Int) (ev : List Ev) (n i : Int) (s : Sit) (v : Nat × Nat) : AS := ⟨tabV [(0, .one (.bx 1000001 0)), (1, iv to), (2, .one (.fn cl [.bx 1000005 0, .bx 1000006 0])), (6, iv at_), (70, iv n), (71, iv i), (1000001, .any), (1000005, .any)], tabO [(1000001, siCv v.1 l a ev up), (1000005, [.g (.int .i64 f), .g (.int .i64 t)]), (1000006, [.ow 1000007 v.2])], tabO [(1000002, staRow s.st), (1000003, stdRow s.td), (1000004, ignV v.1 s.ig), (1000007, stdV v.2 (lgF f t s.out))]⟩
set_option maxHeartbeats 8000000 in
theorem runL_fcm (cl : FuncId) (f t : Int) (hcl : ∀ (x : Std) (o : List Std), o.length ≤ 200000000 → FCM Tryz.prog cl (lgH f t o) [.ag (stdS x), .one (.bx 1000005 0), .one (.bx 1000006 0)] (fun H r => H = lgH f t (lgF1 f t o x) ∧ r = .tu [])) (l : List Alm) (a : List Opr) (ev0 : List Ev) (to : Int) (s0 : Sit) (hl : l.length ≤ 200) (ha : a.length ≤ 1000000)
  (hup : ∀ x ∈ l, ∀ k ∈ parA l (l.length + 1) x, 0 ≤ k ∧ k < l.length) (h0 : RuI l a ev0 s0 0) (ho0 : s0.out.length + 200 * ev0.length ≤ 200000000) :
  FCMS Tryz.prog 38 [1000002, 1000003] (slH f t l a ev0 (upA l) s0) [.one (.bx 1000001 0), iv to, .one (.fn cl [.bx 1000005 0, .bx 1000006 0])] (fun H r => H = slH f t l a (restR to ev0) (upA l) (runE l a to ev0 s0) ∧ r = .tu []) := by
 refine fcms_runL (K := ⟨[], [1000001, 1000005, 1000006], [1000002, 1000003, 1000004, 1000007]⟩) (by simp +arith) (by simp [XK]) (by simp [XK]) ?_
 generalize hT0 : runE l a to ev0 s0 = T
 generalize hR0 : restR to ev0 = R
 have hup2 : (upA l).length = l.length := by simp [upA]
 have hup3 : ∀ i : Int, 0 ≤ i → i < l.length → (∀ k ∈ (upA l).getD i.toNat default, 0 ≤ k ∧ k < l.length) ∧ ((upA l).getD i.toNat default).length ≤ 1000000 := fun i h1 h2 => by
  have e : (upA l).getD i.toNat default = parA l (l.length + 1) (l.getD i.toNat default) := getD_map_in (fun x => parA l (l.length + 1) x) l i.toNat default (by omega)
  rw [e]
  exact ⟨hup _ (getD_mem l _ (by omega)), Nat.le_trans (parA_len l _ _) (by omega)⟩
 have hua : ∀ n i s at_, rptE (upA l) at_ n i s = rptE (upA l) at_ n i s := fun _ _ _ _ => rfl
 unfold C_runL
 simp (maxSteps := 1000000) (disch := omega) only [go_sem]
 refine ex_loop4 (fun ev s v w => rl1St cl f t l a (upA l) to ev s v w) (fun ev s v _ => RuI l a ev s v.1 ∧ (v.2 ≤ 1 ∧ s.out.length + 200 * ev.length ≤ 200000000) ∧ runE l a to ev s = T ∧ restR to ev = R) (fun ev _ _ _ => ev.length) ev0 s0 (0, 0) (.any, .any, .any, .any) ⟨h0, ⟨by simp, ho0⟩, hT0, hR0⟩ (by
  have : ∀ u0 u1 u2 : Val, tabV [(0, u0), (1, u1), (2, u2)] = tabV [(0, u0), (1, u1), (2, u2), (6, .any), (70, .any), (71, .any), (72, .any), (1000001, .any), (1000005, .any)] := fun u0 u1 u2 => by funext n; simp only [tabV, ite_self]
  unfold rl1St
  rw [← this]) ?_
 rintro ev s ⟨v, vv⟩ ⟨w1, w2, w3, w4⟩ ⟨hI, ⟨hvv, hou⟩, hT, hR⟩
 simp only at hI hvv
 obtain ⟨n1, n2, ok, hig, hv⟩ := id hI
 unfold rl1St
 by_cases h0 : ev.length = 0
 ·obtain ⟨r1, r2⟩ := runE_nil (l := l) (a := a) (to := to) (s := s) h0
  rw [hT] at r1
  rw [hR] at r2
  rw [r1, r2]
  simp (maxSteps := 1000000) (disch := omega) only [go_sem]
 ·obtain ⟨r1, r2⟩ := runE_pos (l := l) (a := a) (to := to) (s := s) (show 0 < ev.length by omega)
  rw [hT] at r1
  rw [hR] at r2
  by_cases hto : to < (ev.getD (Int.toNat 0) default).a
  ·rw [if_pos hto] at r1 r2
   rw [r1, r2]
   simp (maxSteps := 1000000) (disch := omega) only [go_sem]
  ·rw [if_neg hto] at r1 r2
   have ez : Int.toNat 0 = 0 := rfl
   simp (maxSteps := 1000000) (disch := omega) only [go_sem]
   clear r1 r2
   refine ex_loop3 (fun ev' s' v' => rl2St cl f t l a (upA l) to (ev.getD (Int.toNat 0) default).a ev' s' v') (fun ev' s' v' => RuI l a ev' s' v'.1 ∧ (v'.2 ≤ 1 ∧ s'.out = s.out) ∧ ev'.length ≤ ev.length ∧ (ev'.length = ev.length → ev' = ev) ∧ restR to ev' = R ∧ (hdAt ev' (ev.getD (Int.toNat 0) default).a = true → runE l a to ev' s' = T) ∧ (hdAt ev' (ev.getD (Int.toNat 0) default).a = false → ev'.length < ev.length ∧ runE l a to ev' (rptE (upA l) (ev.getD (Int.toNat 0) default).a l.length 0 s') = T)) (fun ev' _ _ => ev'.length) ev s (v, vv) ⟨hI, ⟨hvv, rfl⟩, Nat.le_refl _, fun _ => rfl, hR, fun _ => hT, fun h => by rw [hdAt_of, decide_eq_false_iff_not] at h; exact absurd ⟨by omega, rfl⟩ h⟩ rfl ?_
   generalize hat : (ev.getD (Int.toNat 0) default).a = at_ at *
   rintro ev' s' ⟨v', vw⟩ ⟨hI', ⟨hvw, hou'⟩, l1, l2, hR', c1, c2⟩
   simp only at hI' hvw
   obtain ⟨n1', n2', ok', hig', hv'⟩ := id hI'
   unfold rl2St
   by_cases hh : 0 < ev'.length ∧ (ev'.getD (Int.toNat 0) default).a = at_
   ·have c1 := c1 (by rw [hdAt_of, decide_eq_true hh])
    obtain ⟨p1, p2⟩ := runE_pos (l := l) (a := a) (to := to) (s := s') hh.1
    rw [c1, if_neg (by omega)] at p1
    rw [hR', if_neg (by omega)] at p2
    have hap := apply_fcm l a ev' (upA l) s' (ev'.getD (Int.toNat 0) default) n1' (by omega) (by omega) (by omega) (ok' _ (getD_mem _ _ (by omega)))
    obtain ⟨hh1, hh2⟩ := hh
    rw [evS_eq] at hap
    simp (maxSteps := 1000000) (disch := omega) only [go_sem]
    refine ⟨rfl, CALLM_det hap ⟨rfl, rfl⟩ ?_⟩
    simp (maxSteps := 1000000) (disch := omega) only [go_sem]
    rw [hh2] at p1
    refine ⟨ev'.drop (Int.toNat 1), appE l a (ev'.getD (Int.toNat 0) default) s', (1, vw), by simp only [siCv, List.map_drop, appE_out], ⟨hI'.next hh1, ⟨hvw, by rw [appE_out]; exact hou'⟩, by rw [List.length_drop]; omega, fun h => by rw [List.length_drop] at h; have : Int.toNat 1 = 1 := rfl; omega, p2.symm, fun h => ?_, fun h => ⟨by rw [List.length_drop]; have : Int.toNat 1 = 1 := rfl; omega, ?_⟩⟩, by rw [List.length_drop]; have : Int.toNat 1 = 1 := rfl; omega⟩
    ·rw [p1, if_pos h]
    ·rw [p1, if_neg (by rw [h]; simp)]
   ·obtain ⟨c3, c4⟩ := c2 (by rw [hdAt_of, decide_eq_false hh])
    clear c1 c2 hI
    have hst : s'.st.length = l.length := n1'
    have hz : ev'.length = 0 ∨ (0 < ev'.length ∧ (ev'.getD (Int.toNat 0) default).a ≠ at_) := by
     by_cases hz : ev'.length = 0
     ·exact .inl hz
     ·exact .inr ⟨by omega, fun h => hh ⟨by omega, h⟩⟩
    rcases hz with hz | ⟨hz, hne⟩
    all_goals
     simp (maxSteps := 1000000) (disch := omega) only [go_sem]
     refine ex_loop3 (fun i s'' vx => rl3St cl f t l a (upA l) to at_ ev' l.length i s'' (v', vx)) (fun i s'' vx => 0 ≤ i ∧ i ≤ l.length ∧ (vx ≤ 1 ∧ s''.out.length ≤ s'.out.length + i) ∧ s''.st = s'.st ∧ s''.td.length = s'.td.length ∧ s''.ig = s'.ig ∧ rptE (upA l) at_ (l.length - i).toNat i.toNat s'' = rptE (upA l) at_ l.length 0 s') (fun i _ _ => (l.length - i).toNat) 0 s' vw ⟨by omega, by omega, ⟨hvw, by omega⟩, rfl, rfl, rfl, rfl⟩ rfl ?_
     rintro i s2 vx ⟨i1, i2, ⟨hvx, hou2⟩, i3, i4, i5, i6⟩
     unfold rl3St
     by_cases hi : i < l.length
     ·have hu := hup3 i i1 hi
      have hrp := rep_fcm l a ev' (upA l) s2 i i1 (by rw [i3]; omega) (by rw [i3]; omega) (by rw [i3, n1']; exact hu.1) (by rw [i3]; omega) hu.2
      have et := getD_map_at stdS s2.td i [] i1 (by omega)
      have et2 := getE_map_in stdS s2.td i.toNat (by omega)
      obtain ⟨x1, x2, x3⟩ := rptX_len (upA l) at_ i.toNat s2
      rw [show (l.length - i).toNat = (l.length - (i + 1)).toNat + 1 by omega, rptE_succ, show i.toNat + 1 = (i + 1).toNat by omega] at i6
      have hxr : rptX (upA l) at_ i.toNat s2 = if repX (upA l) s2.st i.toNat ≠ (s2.td.getD i.toNat default).st then { s2 with td := s2.td.set i.toNat ⟨(s2.td.getD i.toNat default).al, repX (upA l) s2.st i.toNat, at_⟩, out := s2.out ++ [⟨(s2.td.getD i.toNat default).al, repX (upA l) s2.st i.toNat, at_⟩] } else s2 := rfl
      generalize hrx : repX (upA l) s2.st i.toNat = rx at *
      generalize hry : rptX (upA l) at_ i.toNat s2 = ry at *
      by_cases hc : rx = (s2.td.getD i.toNat default).st
      ·rw [if_neg (by simpa using hc)] at hxr
       simp (maxSteps := 1000000) (disch := omega) only [go_sem]
       refine ⟨rfl, CALLM_det hrp ⟨rfl, rfl⟩ ?_⟩
       simp (maxSteps := 1000000) (disch := omega) only [go_sem]
       subst hxr
       exact ⟨i + 1, ry, vx, rfl, ⟨by omega, by omega, ⟨hvx, by omega⟩, by omega, by omega, by omega, i6⟩, by omega⟩
      ·rw [if_pos hc] at hxr
       have hol : s'.out.length = s.out.length := by rw [hou']
       have hcx := hcl ⟨(s2.td.getD i.toNat default).al, rx, at_⟩ (lgF f t s2.out) (Nat.le_trans (lgF_le f t s2.out) (by omega))
       rw [stdS_eq] at hcx
       simp (maxSteps := 1000000) (disch := omega) only [go_sem]
       refine ⟨rfl, CALLM_det hrp ⟨rfl, rfl⟩ ?_⟩
       simp (maxSteps := 1000000) (disch := omega) only [go_sem]
       refine ⟨rfl, CALLM_det hcx ⟨rfl, rfl⟩ ?_⟩
       simp (maxSteps := 1000000) (disch := omega) only [go_sem]
       have hry2 : ry.out.length ≤ s2.out.length + 1 := by rw [hxr]; simp
       refine ⟨i + 1, ry, 1, ?_, ⟨by omega, by omega, ⟨by omega, by omega⟩, by rw [x1, i3], by omega, by rw [x3, i5], i6⟩, by omega⟩
       rw [hxr]
       simp only [stdRow, stdV, List.map_set, stdS_eq, lgF_snoc]
     ·rw [show (l.length - i).toNat = 0 by omega, rptE] at i6
      rw [← i6] at c4
      simp (maxSteps := 1000000) (disch := omega) only [go_sem]
      exact ⟨ev', s2, (v', vx), (_, _, _, _), rfl, ⟨⟨by rw [i3]; omega, by omega, ok', by rw [i5]; omega, hv'⟩, ⟨hvx, by rw [hou'] at hou2; omega⟩, c4, hR'⟩, by omega⟩
def pLog (k : Nat) : Nat := if k = 9021 then 1000001 else if k = 1000001 then 9021 else if k = 7 then 1000005 else if k = 1000005 then 7 else if k = 11 then 1000006 else if k = 1000006 then 11 else k
def qLog (k : Nat) : Nat := if k = 9019 then 1000002 else if k = 1000002 then 9019 else if k = 500021 then 1000003 else if k = 1000003 then 500021 else if k = 600021 then 1000004 else if k = 1000004 then 600021 else if k = 11 then 1000007 else if k = 1000007 then 11 else k
theorem pLog_p (k : Nat) : pLog (pLog k) = k := by unfold pLog; (repeat' split) <;> omega
theorem qLog_q (k : Nat) : qLog (qLog k) = k := by
 by_cases h0 : k = 9019
 ·subst h0; rfl
 by_cases h1 : k = 1000002
 ·subst h1; rfl
 by_cases h2 : k = 500021
 ·subst h2; rfl
 by_cases h3 : k = 1000003
 ·subst h3; rfl
 by_cases h4 : k = 600021
 ·subst h4; rfl
 by_cases h5 : k = 1000004
 ·subst h5; rfl
 by_cases h6 : k = 11
 ·subst h6; rfl
 by_cases h7 : k = 1000007
 ·subst h7; rfl
 have : qLog k = k := by unfold qLog; rw [if_neg h0, if_neg h1, if_neg h2, if_neg h3, if_neg h4, if_neg h5, if_neg h6, if_neg h7]
 rw [this, this]
theorem aWindow_fc (f t : Int) : FC Tryz.prog 92 none [.ag [.g (.int .i64 f), .g (.int .i64 t)]] (fun _ r => r = bv (decide (0 ≤ f ∧ f ≤ t ∧ t ≤ 345686400000))) := by
 refine fc_aWindow (by simp +arith) ?_
 unfold C_aWindow
 by_cases h : f < 0 ∨ f > t
 ·have ho := out_fc f 0 t
  rw [decide_eq_true h] at ho
  simp (maxSteps := 1000000) (disch := omega) only [go_sem]
  refine CALL_det ho (.inl rfl) ?_
  simp (maxSteps := 1000000) (disch := omega) only [go_sem]
  exact bv_congr (by rw [decide_eq_false (p := 0 ≤ f ∧ f ≤ t ∧ t ≤ 345686400000) (by omega)])
 ·have ho := out_fc f 0 t
  rw [decide_eq_false h] at ho
  simp (maxSteps := 1000000) (disch := omega) only [go_sem]
  refine CALL_det ho (.inl rfl) ?_
  simp (maxSteps := 1000000) (disch := omega) only [go_sem]
  exact bv_congr (by first | (simp; done) | (simp; omega))
theorem awFault_fc (l : List Alm) (s : List Ser) (a : List Opr) (h : AllOk l s a) (f t : Int) (hw : 0 ≤ f ∧ f ≤ t ∧ t ≤ 345686400000) :
  FC Tryz.prog 36 none [alms false l, sers false s, oprs false a, .ag [.g (.int .i64 f), .g (.int .i64 t)]] (fun _ r => r = iv 0) := by
 refine fc_awFault (by simp +arith) ?_
 have hf := aFault_fc l s a h.al h.sm1 h.se h.sm2 h.ac h.sm3
 have hwf := aWindow_fc f t
 rw [decide_eq_true hw] at hwf
 unfold C_awFault
 simp (maxSteps := 1000000) (disch := omega) only [go_sem]
 refine CALL_det hf (.inl rfl) ?_
 simp (maxSteps := 1000000) (disch := omega) only [go_sem]
 refine CALL_det hwf (.inl rfl) ?_
 simp (maxSteps := 1000000) (disch := omega) only [go_sem]
theorem log_fcm (l : List Alm) (s : List Ser) (a : List Opr) (h : AllOk l s a) (f t : Int) (hw : 0 ≤ f ∧ f ≤ t ∧ t ≤ 345686400000) :
  FCM Tryz.prog 11 ⟨[], []⟩ [alms false l, sers false s, oprs false a, .ag [.g (.int .i64 f), .g (.int .i64 t)]] (fun H r => H = ⟨[], [(11, stdRow (lgF f t (runA l s a (t - 1)).out))]⟩ ∧ r = .tu [.one (.ow 11 0), iv 0]) := by
 refine fcm_log (K := ⟨[], [], [11]⟩) (by simp +arith) (by simp) (by simp) ?_
 have hl := h.al.len
 have hf := awFault_fc l s a h f t hw
 have hns := newSite_fcm l s a h.al h.se h.ac (by have := h.ev; omega)
 have hrun := runL_fcm 39 f t (logC_fcm f t) l a (evs l s a) (t - 1) (sit0 l) (by omega) (by have := h.ac.len; omega) (fun x hx => par_in h.al _ x hx) h.run (by have := h.ev; rw [evs_len]; simp [sit0]; omega)
 rw [show runE l a (t - 1) (evs l s a) (sit0 l) = runA l s a (t - 1) from rfl] at hrun
 generalize runA l s a (t - 1) = T at *
 unfold C_log
 simp (maxSteps := 1000000) (disch := omega) only [go_sem]
 refine CALL_det hf (.inl rfl) ?_
 simp (maxSteps := 1000000) (disch := omega) only [go_sem]
 refine ⟨rfl, CALLM_rnE ⟨[(9021, siN 0 l a (evs l s a) (upA l) true)], siR (sit0 l)⟩ (.one (.bx 9021 0)) p21 q19 p21_p q19_q hns (by simp) rfl rfl rfl rfl ⟨rfl, rfl⟩ ?_⟩
 simp (maxSteps := 1000000) (disch := omega) only [go_sem]
 refine ⟨rfl, CALLM_rnES ⟨[(9021, siN 0 l a (restR (t - 1) (evs l s a)) (upA l) false), (7, [.g (.int .i64 f), .g (.int .i64 t)]), (11, [.ow 11 0])], siR T ++ [(11, stdRow (lgF f t T.out))]⟩ (.tu []) pLog qLog pLog_p qLog_q hrun (by simp) rfl rfl rfl rfl rfl ⟨rfl, rfl⟩ ?_⟩
 simp (maxSteps := 1000000) (disch := omega) only [go_sem]
 done
end Go.Proofs.YtcagelfmngmocaaGreatDoor


/-
 A walker goes through a file of no block or one.
-/
import Derived.Test.YtiiblflmfadmbaaBld
import Derived.Test.YtiiblflmfadmbaaCrs
namespace Go.Proofs.Ytiiblflmfadmbaa
open Go Go.Ai
set_option linter.unusedSimpArgs false
set_option linter.unusedVariables false
set_option maxHeartbeats 4000000
def C_newW : AC := (.seq (.reg false [gI 2 (.mv (.v (.pointer none)))] (kP [0] [6] [4,200006]))
 (.seq (.seq (.reg false [gM 3 0,gI 4 (.mkm 0),gI 5 (.build [(.slice none 0 0),(.int .i64 (0)),(.slice none 0 0),(.map none)] [(0,1,(.t 3)),(3,1,(.t 4))]),gI 6 (.box (.t 5)),gM 2 6] (kP [2,6] [6] [4]))
 (.ownb 6 2 200006 109 8))
 .ret))
theorem fcm_newW : FmT Try.prog 61 Try.f61 C_newW [.t 2] := fcm_mk [aN [0] [6] [4,200006],⟨(kP [2,6] [6] [4]),[(1200006,109,8)],[],[],[]⟩] Try.func61 (by kernel_rfl)
def C_step : AC := (.seq (.reg false [gI 2 (.mv (oI 0))] (kP [0,1000000] [1000000] [1000001,1000002]))
 (.seq (.reg true [gM 9 0,gN (.chk (.t 9) (some 1000000)),gI 10 (.nilchk (.t 9)),gN (.chk (.t 10) (some 1000000)),gI 11 (.fadr 0 (.t 10)),gN (.chk (.t 11) (some 1000000)),gI 12 (.load false 1 (.t 11)),gM 13 0,gN (.chk (.t 13) (some 1000000)),gI 14 (.nilchk (.t 13)),gN (.chk (.t 14) (some 1000000)),gI 15 (.fadr 1 (.t 14)),gN (.chk (.t 15) (some 1000000)),gI 16 (.load false 1 (.t 15)),gI 17 (.callm (.f 68) [(.t 12),(.t 16)] ⟨[],[],[],[],[]⟩),gM 8 17,gI 18 (.extr (.t 8) 0),gI 19 (.extr (.t 8) 1),gI 20 (.extr (.t 8) 2),gI 3 (.alloc [(.int .i64 (0)),(.int .i64 (0)),(.string (ByteArray.mk #[])),(.int .i64 (0)),(.int .i64 (0)),(.int .i64 (0)),(.bool false)]),gN (.store 7 (.t 3) (.t 18)),gM 4 19,gM 5 20] (kP [0,3,4,5,1000000] [3,1000000] [1000001,1000002]))
 (.seq (.seq (.reg false [gM 21 5,gI 22 (.bin .neq (.t 21) (oI 0))] (kP [0,3,4,5,22,1000000] [3,1000000] [1000001,1000002]))
 (.cond (.t 22)
 (.seq (.reg false [gM 23 5,gM 2 23] (kP [2] [1000000] [1000001,1000002]))
 .ret)
 .skip))
 (.seq (.seq (.reg true [gM 25 0,gI 26 (.nilchk (.t 25)),gI 27 (.fadr 3 (.t 26)),gI 28 (.load false 1 (.t 27)),gI 29 (.fadr 2 (.t 3)),gI 30 (.load false 1 (.t 29)),gI 31 (.mlk 0 (.int .i64 (0)) true 0 (.t 28) (.t 30)),gM 24 31,gI 32 (.extr (.t 24) 0),gI 33 (.extr (.t 24) 1),gM 6 32,gM 7 33] (kP [0,3,4,6,7,1000000] [3,1000000] [1000001,1000002]))
 (.seq (.reg false [gM 34 7,gM 35 34,gG 36 35 true (.fadr 6 (.t 3)),gG 37 35 true (.load false 1 (.t 36)),gG 38 35 true (.un .not (.t 37)),gI 39 (.pick (.t 35) (.t 38) (.v (.bool false))),gM 40 39,gG 41 40 true (.fadr 3 (.t 3)),gG 42 40 true (.load false 1 (.t 41)),gG 43 40 true (.mv (.t 6)),gG 44 40 true (.bin .leq (.t 42) (.t 43)),gI 45 (.pick (.t 40) (.t 44) (.v (.bool false)))] (kP [0,3,4,45,1000000] [3,1000000] [1000001,1000002]))
 (.cond (.t 45)
 (.seq (.reg false [gI 2 (.mv (oI 7))] (kP [2] [1000000] [1000001,1000002]))
 .ret)
 .skip)))
 (.seq (.seq (.reg false [gI 46 (.fadr 6 (.t 3)),gI 47 (.load false 1 (.t 46)),gI 48 (.un .not (.t 47))] (kP [0,3,4,48,1000000] [3,1000000] [1000001,1000002]))
 (.cond (.t 48)
 (.reg true [gM 49 0,gI 50 (.nilchk (.t 49)),gI 51 (.fadr 3 (.t 50)),gI 52 (.load false 1 (.t 51)),gI 53 (.fadr 2 (.t 3)),gI 54 (.load false 1 (.t 53)),gI 55 (.fadr 4 (.t 3)),gI 56 (.load false 1 (.t 55)),gN (.mup 0 (.t 52) (.t 54) (.t 56))] (kP [0,3,4,1000000] [3,1000000] [1000001,1000002]))
 .skip))
 (.seq (.reg true [gM 57 0,gM 58 0,gI 59 (.nilchk (.t 58)),gI 60 (.fadr 2 (.t 59)),gI 61 (.load false 1 (.t 60)),gI 62 (.load true 7 (.t 3)),gM 63 4,gI 64 (.build [(.int .i64 (0)),(.int .i64 (0)),(.string (ByteArray.mk #[])),(.int .i64 (0)),(.int .i64 (0)),(.int .i64 (0)),(.bool false),(.slice none 0 0)] [(0,7,(.t 62)),(7,1,(.t 63))]),gI 65 (.bslice 8 1 [(.t 64)]),gI 66 (.append 109 8 88 (.t 61) (.t 65)),gI 67 (.nilchk (.t 57)),gI 68 (.fadr 2 (.t 67)),gN (.store 1 (.t 68) (.t 66))] (kP [0,3,1000000] [3,1000000] [1000001,1000002]))
 (.seq (.reg true [gM 69 0,gI 70 (.nilchk (.t 69)),gI 71 (.fadr 1 (.t 70)),gI 72 (.load false 1 (.t 71)),gI 73 (.fadr 1 (.t 3)),gI 74 (.load false 1 (.t 73)),gI 75 (.bin .add (.t 72) (.t 74)),gI 76 (.nilchk (.t 69)),gI 77 (.fadr 1 (.t 76)),gN (.store 1 (.t 77) (.t 75))] (kP [] [1000000] [1000001,1000002]))
 (.seq (.reg false [gI 2 (.mv (oI 0))] (kP [2] [1000000] [1000001,1000002]))
 .ret))))))))
theorem fcms_step : FsT Try.prog 62 Try.f62 C_step [.t 2] := fcms_mk [aN [0,1000000] [1000000] [1000001,1000002],⟨(kP [0,3,4,5,1000000] [3,1000000] [1000001,1000002]),[],[(1,(some 1000000)),(2,(some 1000000)),(3,(some 1000000)),(5,(some 1000000)),(6,(some 1000000)),(7,(some 1000000))],[],[(17,⟨[],[],[],[],[]⟩)]⟩,aN [0,3,4,5,22,1000000] [3,1000000] [1000001,1000002],aN [2] [1000000] [1000001,1000002],aN [0,3,4,6,7,1000000] [3,1000000] [1000001,1000002],aN [0,3,4,45,1000000] [3,1000000] [1000001,1000002],aN [2] [1000000] [1000001,1000002],aN [0,3,4,48,1000000] [3,1000000] [1000001,1000002],aN [0,3,4,1000000] [3,1000000] [1000001,1000002],aN [0,3,1000000] [3,1000000] [1000001,1000002],aN [] [1000000] [1000001,1000002],aN [2] [1000000] [1000001,1000002]] Try.func62 (by kernel_rfl)
def C_walk : AC := (.seq (.reg false [gI 2 (.mv (.v (.pointer none))),gI 3 (.mv (oI 0))] (kP [0,500] [500] [501,502]))
 (.seq (.seq (.reg false [gM 6 0,gI 7 (.len (.t 6)),gI 8 (.bin .gtr (.t 7) (oI 200000))] (kP [0,8,500] [500] [501,502]))
 (.cond (.t 8)
 (.seq (.reg false [gI 2 (.mv (.v (.pointer none))),gI 3 (.mv (oI 2))] (kP [2,3,500] [500] []))
 .ret)
 .skip))
 (.seq (.reg false [gM 9 0,gI 10 (.callm (.f 61) [(.t 9)] ⟨[],[],[500],[501,502],[]⟩),gM 4 10] (kP [0,4,500] [500] [501,502]))
 (.seq (.block 0 (.loop (.seq (.seq (.reg false [gM 11 4,gI 12 (.nilchk (.t 11)),gI 13 (.fadr 1 (.t 12)),gI 14 (.load false 1 (.t 13)),gM 15 0,gI 16 (.len (.t 15)),gI 17 (.bin .lss (.t 14) (.t 16))] (kP [0,4,17,500] [500] [501,502]))
 (.cond (.t 17)
 .skip
 (.exit 0)))
 (.block 1 (.seq (.reg false [gM 18 4,gI 19 (.callm (.f 62) [(.t 18)] ⟨[500],[501,502],[500],[501,502],[502]⟩),gM 5 19] (kP [0,4,5,500] [500] [501,502]))
 (.seq (.reg false [gM 20 5,gI 21 (.bin .neq (.t 20) (oI 0))] (kP [0,4,5,21,500] [500] [501,502]))
 (.cond (.t 21)
 (.seq (.reg false [gM 22 5,gI 2 (.mv (.v (.pointer none))),gM 3 22] (kP [2,3,500] [500] []))
 .ret)
 .skip)))))))
 (.seq (.reg false [gM 23 4,gM 2 23,gI 3 (.mv (oI 0))] (kP [2,3,500] [500] []))
 .ret)))))
theorem fcm_walk : FmT Try.prog 45 Try.f45 C_walk [.t 2, .t 3] := fcm_mk [aN [0,500] [500] [501,502],aN [0,8,500] [500] [501,502],aN [2,3,500] [500] [],⟨(kP [0,4,500] [500] [501,502]),[],[],[],[(10,⟨[],[],[500],[501,502],[]⟩)]⟩,aN [0,4,17,500] [500] [501,502],⟨(kP [0,4,5,500] [500] [501,502]),[],[],[],[(19,⟨[500],[501,502],[500],[501,502],[502]⟩)]⟩,aN [0,4,5,21,500] [500] [501,502],aN [2,3,500] [500] [],aN [2,3,500] [500] []] Try.func45 (by kernel_rfl)
def C_tagged : AC := (.seq (.reg false [gI 4 (.mv (.v (.pointer none))),gI 5 (.mv (oI 0))] (kP [0,1,500] [500] []))
 (.seq (.reg false [gM 9 0,gI 10 (.callm (.f 45) [(.t 9)] ⟨[],[],[500],[],[]⟩),gM 8 10,gI 11 (.extr (.t 8) 0),gI 12 (.extr (.t 8) 1),gM 6 11,gM 7 12] (kP [1,6,7,500] [500] []))
 (.seq (.seq (.reg false [gM 13 7,gI 14 (.bin .eql (.t 13) (oI 0)),gM 15 14,gG 16 15 true (.mv (.t 1)),gG 17 15 true (.call (.f 46) [(.t 16)]),gG 18 15 true (.un .not (.t 17)),gI 19 (.pick (.t 15) (.t 18) (.v (.bool false)))] (kP [6,7,19,500] [500] []))
 (.cond (.t 19)
 (.reg false [gI 7 (.mv (oI 5))] (kP [6,7,500] [500] []))
 .skip))
 (.seq (.reg false [gM 20 6,gM 21 7,gM 4 20,gM 5 21] (kP [4,5,500] [500] []))
 .ret))))
theorem fcm_tagged : FmT Try.prog 24 Try.f24 C_tagged [.t 4, .t 5] := fcm_mk [aN [0,1,500] [500] [],⟨(kP [1,6,7,500] [500] []),[],[],[],[(10,⟨[],[],[500],[],[]⟩)]⟩,aN [6,7,19,500] [500] [],aN [6,7,500] [500] [],aN [4,5,500] [500] []] Try.func24 (by kernel_rfl)
theorem fcm_fc {P : Program} {f : FuncId} {args : List Val} {Y : Val} (h : FC P f none args (fun _ r => r = Y)) : FCM P f ⟨[], []⟩ args (fun H r => H = ⟨[], []⟩ ∧ r = Y) := by
 refine ⟨h.1, fun w okA E vs hT hH hown hTy hlen hargs => ?_⟩
 have hgm : ∀ k, E.gm k = none := fun k => hH.bxn k rfl
 have hrm : ∀ k, E.rm k = none := fun k => hH.rwn k rfl
 have hE : E = Env.none := by
  obtain ⟨a, b⟩ := E
  have h1 : a = fun _ => none := funext hgm
  have h2 : b = fun _ => none := funext hrm
  rw [h1, h2]; rfl
 subst hE
 refine Calls.mono (h.2 w okA 0 vs hT (fun cs h => by cases h) hlen hargs) ?_
 rintro e w' ⟨v, cs', r, rfl, hR, hg, hv, _⟩
 refine ⟨v, ⟨[], []⟩, r, Env.none, rfl, ⟨rfl, hR⟩, ⟨hg.os, hg.tape, hg.output, hg.size, fun k hk _ => hg.block k hk (by simp)⟩, ?_, ?_, ?_, ?_, ?_, ?_, ?_, ?_, ?_⟩
 ·exact ⟨fun k cs h => (by simp [tabO] at h), fun k _ => rfl, fun k r0 h => (by simp [tabO] at h), fun k _ => rfl, fun k k' g h => (by cases h), fun k g k' ver z u h => (by cases h), fun k ver z u k' ver' z' u' b h => (by cases h)⟩
 ·have e : okE w okA Env.none = fun b => w.heap.size ≤ b ∨ okA b := by
   funext b
   simp [okE, Env.none]
  rw [e]
  exact hv
 ·exact fun k g g' h => (by cases h)
 ·exact fun k g h => (by cases h)
 ·exact fun k ver z u b h => (by cases h)
 ·exact fun k r0 h => (by simp [tabO] at h)
 ·exact fun k r0 r1 h => (by simp [tabO] at h)
 ·exact fun k ver ver' z z' u u' h => (by simp at h)
 ·exact fun k g _ h => (by cases h)
theorem mget_nil (k : Value) : mget k [] = none := (rfl)
theorem mput_nil (k : Value) (c : Cel) : mput k c [] = [[.g k, c]] := (rfl)
attribute [local go_sem] mget_nil mput_nil Option.getD_none Option.isSome_none
def wkC (B : List Int) (at_ : Int) (kp km : Nat) : List Cel := [.sl false 1 (B.map u8C), .g (.int .i64 at_), .ow kp 0, .mp km]
abbrev ptRow (es : List (List Cel)) : Row := ⟨0, 109, 8, es⟩
abbrev mRow (es : List (List Cel)) : Row := ⟨0, 0, 0, es⟩
theorem newW_fcm (B : List Int) : FCM Try.prog 61 ⟨[], []⟩ [bysV false B] (fun H r => H = ⟨[(6, wkC B 0 200006 4)], [(200006, ptRow []), (4, mRow [])]⟩ ∧ r = .one (.bx 6 0)) := by
 refine fcm_newW (K := ⟨[], [6], [200006, 4]⟩) (by simp +arith) (by simp) (by simp) ?_
 unfold C_newW
 simp (maxSteps := 1000000) (disch := (first | omega | assumption)) only [go_sem]
 try rfl
def wkH (B : List Int) (at_ : Int) (ps ms : List (List Cel)) : Hp := ⟨[(1000000, wkC B at_ 1000001 1000002)], [(1000001, ptRow ps), (1000002, mRow ms)]⟩
theorem step_fcm (l : List Smp) (hk : ∀ x ∈ l, okSmp x) (hl : l.length ≤ 100) (h1 : 1 ≤ l.length) (hs : serFault l = 0) :
  FCMS Try.prog 62 [1000002] (wkH (encS tgL false l) 0 [] []) [.one (.bx 1000000 0)] (fun H r => H = wkH (encS tgL false l) (encS tgL false l).length [blkC l ++ [.sl true 3 (l.map smpC)]] [[.g (.string tgB), .g (.int .i64 (l.getD (l.length - 1) default).a)]] ∧ r = iv 0) := by
 have hd := fcm_fc (decode_fc l hk hl h1 hs)
 have hbl := bodyS_len tgL false l
 have hel : (encS tgL false l).length = (bodyS tgL false l).length + 2 := by unfold encS; simp
 rw [show tgL.length = 3 from rfl] at hbl
 unfold blkC at hd ⊢
 generalize encS tgL false l = B at *
 generalize (l.getD (l.length - 1) default).a = la at *
 generalize (l.getD 0 default).a = fa at *
 refine fcms_step (K := ⟨[], [1000000], [1000001, 1000002]⟩) (by simp +arith) (by simp [XK, wkH]) (by simp [XK, wkH]) ?_
 unfold C_step wkH wkC
 simp (maxSteps := 1000000) (disch := (first | omega | assumption)) only [go_sem]
 refine ⟨rfl, CALLM_det hd ⟨rfl, rfl⟩ ?_⟩
 simp (maxSteps := 1000000) (disch := (first | omega | assumption)) only [go_sem]
 rw [Int.zero_add]
theorem newW0_fcm : FCM Try.prog 61 ⟨[], []⟩ [.one (.g (.slice none 0 0))] (fun H r => H = ⟨[(6, [.g (.slice none 0 0), .g (.int .i64 0), .ow 200006 0, .mp 4])], [(200006, ptRow []), (4, mRow [])]⟩ ∧ r = .one (.bx 6 0)) := by
 refine fcm_newW (K := ⟨[], [6], [200006, 4]⟩) (by simp +arith) (by simp) (by simp) ?_
 unfold C_newW
 simp (maxSteps := 1000000) (disch := (first | omega | assumption)) only [go_sem]
 try rfl
def qW (k : Nat) : Nat := if k = 200006 then 501 else if k = 501 then 200006 else if k = 4 then 502 else if k = 502 then 4 else k
theorem qW_q (k : Nat) : qW (qW k) = k := by
 unfold qW; split <;> (repeat' split) <;> omega
def qX (k : Nat) : Nat := if k = 1000001 then 501 else if k = 501 then 1000001 else if k = 1000002 then 502 else if k = 502 then 1000002 else k
theorem qX_q (k : Nat) : qX (qX k) = k := by
 unfold qX; split <;> (repeat' split) <;> omega
theorem walk0_fcm : FCM Try.prog 45 ⟨[], []⟩ [.one (.g (.slice none 0 0))] (fun H r => H = ⟨[(500, [.g (.slice none 0 0), .g (.int .i64 0), .sl true 8 [], .fm 0 []])], []⟩ ∧ r = .tu [.one (.bx 500 0), iv 0]) := by
 refine fcm_walk (K := ⟨[], [500], []⟩) (by simp +arith) (by simp) (by simp) ?_
 unfold C_walk
 simp (maxSteps := 1000000) (disch := (first | omega | assumption)) only [go_sem]
 refine ⟨rfl, CALLM_rnE ⟨[(500, [.g (.slice none 0 0), .g (.int .i64 0), .ow 501 0, .mp 502])], [(501, ptRow []), (502, mRow [])]⟩ (.one (.bx 500 0)) (swp 6 500) qW (swp_swp 6 500) qW_q newW0_fcm (by simp) rfl rfl rfl rfl ⟨rfl, rfl⟩ ?_⟩
 simp (maxSteps := 1000000) (disch := (first | omega | assumption)) only [go_sem]
 refine ex_loop1 (fun n : Nat => ⟨tabV [(0, .one (.g (.slice none 0 0))), (4, .one (.bx 500 0)), (500, .any)], tabO [(500, [.g (.slice none 0 0), .g (.int .i64 0), .ow 501 0, .mp 502])], tabO [(501, ptRow []), (502, mRow [])]⟩) (fun _ => True) (fun n => n) 0 trivial rfl ?_
 rintro n -
 simp (maxSteps := 1000000) (disch := (first | omega | assumption)) only [go_sem]
def ptE (l : List Smp) : List Cel := blkC l ++ [.sl true 3 (l.map smpC)]
def mtE (l : List Smp) : List Cel := [.g (.string tgB), .g (.int .i64 (l.getD (l.length - 1) default).a)]
def wlSt (B : List Int) (pe me : List Cel) : Bool → AS
 | false => ⟨tabV [(0, bysV false B), (4, .one (.bx 500 0)), (500, .any)], tabO [(500, wkC B 0 501 502)], tabO [(501, ptRow []), (502, mRow [])]⟩
 | true => ⟨tabV [(0, bysV false B), (4, .one (.bx 500 0)), (5, iv 0), (21, bv (decide ((0 : Int) ≠ 0))), (500, .any)], tabO [(500, wkC B B.length 501 502)], tabO [(501, ptRow [pe]), (502, mRow [me])]⟩
theorem walk1_fcm (l : List Smp) (hk : ∀ x ∈ l, okSmp x) (hl : l.length ≤ 100) (h1 : 1 ≤ l.length) (hs : serFault l = 0) :
  FCM Try.prog 45 ⟨[], []⟩ [bysV false (encS tgL false l)] (fun H r => H = ⟨[(500, [.sl false 1 ((encS tgL false l).map u8C), .g (.int .i64 (encS tgL false l).length), .sl true 8 [ptE l], .fm 0 [mtE l]])], []⟩ ∧ r = .tu [.one (.bx 500 0), iv 0]) := by
 have hst := step_fcm l hk hl h1 hs
 have hbl := bodyS_len tgL false l
 have hel : (encS tgL false l).length = (bodyS tgL false l).length + 2 := by unfold encS; simp
 rw [show tgL.length = 3 from rfl] at hbl
 rw [show blkC l ++ [.sl true 3 (l.map smpC)] = ptE l from rfl, show [Cel.g (.string tgB), .g (.int .i64 (l.getD (l.length - 1) default).a)] = mtE l from rfl] at hst
 have hfr : (ptE l).all freshC = true := rfl
 generalize ptE l = pe at *
 generalize mtE l = me at *
 generalize encS tgL false l = B at *
 unfold wkH wkC at hst
 refine fcm_walk (K := ⟨[], [500], []⟩) (by simp +arith) (by simp) (by simp) ?_
 unfold C_walk
 simp (maxSteps := 1000000) (disch := (first | omega | assumption)) only [go_sem]
 refine ⟨rfl, CALLM_rnE ⟨[(500, wkC B 0 501 502)], [(501, ptRow []), (502, mRow [])]⟩ (.one (.bx 500 0)) (swp 6 500) qW (swp_swp 6 500) qW_q (newW_fcm B) (by simp) rfl rfl rfl rfl ⟨rfl, rfl⟩ ?_⟩
 unfold wkC
 simp (maxSteps := 1000000) (disch := (first | omega | assumption)) only [go_sem]
 refine ex_loop1 (fun b => wlSt B pe me b) (fun _ => True) (fun b => if b then 0 else 1) false trivial rfl ?_
 rintro b -
 cases b with
 | false =>
  unfold wlSt wkC
  simp (maxSteps := 1000000) (disch := (first | omega | assumption)) only [go_sem]
  refine ⟨rfl, CALLM_rnES ⟨[(500, wkC B B.length 501 502)], [(501, ptRow [pe]), (502, mRow [me])]⟩ (iv 0) (swp 1000000 500) qX (swp_swp 1000000 500) qX_q hst (by simp) rfl rfl rfl rfl rfl ⟨rfl, rfl⟩ ?_⟩
  unfold wkC
  simp (maxSteps := 1000000) (disch := (first | omega | assumption)) only [go_sem]
  exact ⟨true, rfl, by decide⟩
 | true =>
  unfold wlSt wkC
  simp (maxSteps := 1000000) (disch := (first | omega | assumption)) only [go_sem]
  rw [hfr]
def wk0C : List Cel := [.g (.slice none 0 0), .g (.int .i64 0), .sl true 8 [], .fm 0 []]
def wk1C (l : List Smp) : List Cel := [.sl false 1 ((encS tgL false l).map u8C), .g (.int .i64 (encS tgL false l).length), .sl true 8 [ptE l], .fm 0 [mtE l]]
theorem tagged0_fcm : FCM Try.prog 24 ⟨[], []⟩ [.one (.g (.slice none 0 0)), .one (.g (.string tgB))] (fun H r => H = ⟨[(500, wk0C)], []⟩ ∧ r = .tu [.one (.bx 500 0), iv 0]) := by
 refine fcm_tagged (K := ⟨[], [500], []⟩) (by simp +arith) (by simp) (by simp) ?_
 unfold C_tagged
 simp (maxSteps := 1000000) (disch := (first | omega | assumption)) only [go_sem]
 refine ⟨rfl, CALLM_det walk0_fcm ⟨rfl, rfl⟩ ?_⟩
 simp (maxSteps := 1000000) (disch := (first | omega | assumption)) only [go_sem]
 refine CALL_det tag_key (.inl rfl) ?_
 simp (maxSteps := 1000000) (disch := (first | omega | assumption)) only [go_sem]
 rfl
theorem tagged1_fcm (l : List Smp) (hk : ∀ x ∈ l, okSmp x) (hl : l.length ≤ 100) (h1 : 1 ≤ l.length) (hs : serFault l = 0) :
  FCM Try.prog 24 ⟨[], []⟩ [bysV false (encS tgL false l), .one (.g (.string tgB))] (fun H r => H = ⟨[(500, wk1C l)], []⟩ ∧ r = .tu [.one (.bx 500 0), iv 0]) := by
 refine fcm_tagged (K := ⟨[], [500], []⟩) (by simp +arith) (by simp) (by simp) ?_
 have hw := walk1_fcm l hk hl h1 hs
 rw [show [Cel.sl false 1 ((encS tgL false l).map u8C), .g (.int .i64 (encS tgL false l).length), .sl true 8 [ptE l], .fm 0 [mtE l]] = wk1C l from rfl] at hw
 have hw2 : wk1C l = [.sl false 1 ((encS tgL false l).map u8C), .g (.int .i64 (encS tgL false l).length), .sl true 8 [ptE l], .fm 0 [mtE l]] := rfl
 generalize ptE l = pe at *
 generalize mtE l = me at *
 generalize encS tgL false l = B at *
 rw [hw2] at hw ⊢
 unfold C_tagged
 simp (maxSteps := 1000000) (disch := (first | omega | assumption)) only [go_sem]
 refine ⟨rfl, CALLM_det hw ⟨rfl, rfl⟩ ?_⟩
 simp (maxSteps := 1000000) (disch := (first | omega | assumption)) only [go_sem]
 refine CALL_det tag_key (.inl rfl) ?_
 simp (maxSteps := 1000000) (disch := (first | omega | assumption)) only [go_sem]
end Go.Proofs.Ytiiblflmfadmbaa

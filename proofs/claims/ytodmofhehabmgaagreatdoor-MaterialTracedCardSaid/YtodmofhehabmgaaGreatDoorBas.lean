/-
 What is common to the functions that draw numbers from a stream: how their contracts read, and how a call of one is met.
 What is wrong with samples, series, moments, windows: the program's answer and the reference's are one.
 The value of a series at a moment: the program's way (binary search) and the reference's (a walk over all samples) come to one answer.
 The streams of numbers: Below, Next, Range, Flip, Pick, Odd: what they draw and hand back.
 The curves that streams draw: AMoment, ASpan, Curve.
-/
import Derived.Test.YtodmofhehabmgaaGreatDoorAiE
import Derived.Test.YtodmofhehabmgaaGreatDoorProg
namespace Go.Ai
open Go
set_option linter.unusedSimpArgs false
set_option linter.unusedVariables false
set_option maxHeartbeats 4000000
def intC (n : Int) : List Cel := [.g (.int .i64 n)]
abbrev ints (fr : Bool) (l : List Int) : Val := .one (.sl fr 1 (l.map intC))
/-- In the range of Go's int. -/
def I64 (n : Int) : Prop := -9223372036854775808 ≤ n ∧ n ≤ 9223372036854775807
/-- The box of a stream. -/
def strm (L : List Int) (at_ : Int) : List Cel := [.sl false 1 (L.map intC), .g (.int .i64 at_)]
theorem wrap_in (n : Int) : I64 (IntKind.i64.wrap n) := by
 unfold I64
 rw [IntKind.wrap_i64]
 omega
theorem and_then {p q : Prop} (hp : p) (hq : p → q) : p ∧ q := ⟨hp, hq hp⟩
theorem getD_map_in {α β : Type} [Inhabited α] (f : α → β) (l : List α) (i : Nat) (d : β) (h : i < l.length) : (l.map f).getD i d = f (l.getD i default) := by
 simp [List.getD_eq_getElem?_getD, h]
theorem getD_mem {α : Type} [Inhabited α] (l : List α) (i : Nat) (h : i < l.length) : l.getD i default ∈ l := by
 simp [List.getD_eq_getElem?_getD, h]
theorem intC_eq (n : Int) : intC n = [.g (.int .i64 n)] := (rfl)
attribute [go_sem] getD_map_in List.length_map intC_eq
variable {P : Program} {Q : AX → AS → Prop} {s : AS} {k : List KI} {kp : Option Keep} {l : List GI}
theorem getE_map_in {α β : Type} [Inhabited α] (f : α → β) (l : List α) (i : Nat) (h : i < l.length) : (l.map f)[i]? = some (f (l.getD i default)) := by
 simp [List.getD_eq_getElem?_getD, h]
attribute [go_sem] getE_map_in Bool.not_eq_true' Bool.not_eq_false'
theorem iv_congr {a b : Int} (h : a = b) : Val.one (.g (.int .i64 a)) = iv b := by rw [h]
theorem bv_congr {a b : Bool} (h : a = true ↔ b = true) : Val.one (.g (.bool a)) = bv b := by
 have : a = b := by cases a <;> cases b <;> simp_all
 rw [this]
theorem bv_dec {p q : Prop} [Decidable p] [Decidable q] (h : p ↔ q) : Val.one (.g (.bool (decide p))) = bv (decide q) := by simp [h]
theorem bv_ndec {p q : Prop} [Decidable p] [Decidable q] (h : ¬p ↔ q) : Val.one (.g (.bool (!decide p))) = bv (decide q) := by simp [← h]
theorem bv_f {q : Prop} [Decidable q] (h : ¬q) : Val.one (.g (.bool false)) = bv (decide q) := by simp [h]
theorem bv_t {q : Prop} [Decidable q] (h : q) : Val.one (.g (.bool true)) = bv (decide q) := by simp [h]
/-- A sample: its moment, value and quality. -/
structure Smp where
 a : Int
 v : Int
 q : Int
 deriving Inhabited
def smpC (x : Smp) : List Cel := [.g (.int .i64 x.a), .g (.int .i64 x.v), .g (.int .i64 x.q)]
theorem smpC_eq (x : Smp) : smpC x = [.g (.int .i64 x.a), .g (.int .i64 x.v), .g (.int .i64 x.q)] := (rfl)
attribute [go_sem] smpC_eq
abbrev smps (fr : Bool) (l : List Smp) : Val := .one (.sl fr 3 (l.map smpC))
theorem frE_map {α : Type} {f : α → List Cel} (h : ∀ x, (f x).all freshC = true) (l : List α) : frE (l.map f) = true := by
 simp only [frE, List.all_eq_true, List.mem_map]
 rintro e ⟨x, _, rfl⟩
 exact List.all_eq_true.1 (h x)
theorem datE_map {α : Type} {f : α → List Cel} (h : ∀ x, (f x).map Cel.dat = f x) (l : List α) : datE (l.map f) = l.map f := by simp [datE, Function.comp_def, h]
theorem tofE_map {α : Type} {f : α → List Cel} (h : ∀ x, (f x).map Cel.tof = f x) (l : List α) : tofE (l.map f) = l.map f := by simp [tofE, Function.comp_def, h]
theorem frE_set {es : List (List Cel)} {e : List Cel} {i : Nat} (h : frE es = true) (he : e.all freshC = true) : frE (es.set i e) = true := by
 simp only [frE, List.all_eq_true] at *
 intro x hx
 rcases List.mem_or_eq_of_mem_set hx with h1 | rfl
 ·exact h x h1
 ·exact he
theorem frE_int (l : List Int) : frE (l.map intC) = true := frE_map (fun _ => rfl) l
theorem datE_int (l : List Int) : datE (l.map intC) = l.map intC := datE_map (fun _ => rfl) l
theorem tofE_int (l : List Int) : tofE (l.map intC) = l.map intC := tofE_map (fun _ => rfl) l
theorem frE_smp (l : List Smp) : frE (l.map smpC) = true := frE_map (fun _ => rfl) l
theorem datE_smp (l : List Smp) : datE (l.map smpC) = l.map smpC := datE_map (fun _ => rfl) l
theorem tofE_smp (l : List Smp) : tofE (l.map smpC) = l.map smpC := tofE_map (fun _ => rfl) l
attribute [go_sem] frE_int datE_int tofE_int frE_smp datE_smp tofE_smp
end Go.Ai
namespace Go.Proofs.YtodmofhehabmgaaGreatDoor
open Go Go.Ai
set_option linter.unusedSimpArgs false
set_option linter.unusedVariables false
set_option maxHeartbeats 4000000
def C_out : AC := (.seq (.reg false [gI 6 (.mv (.v (.bool false)))] (kP [0,1,2] [] []))
 (.seq (.reg false [gM 7 0,gM 8 1,gI 9 (.bin .lss (.t 7) (.t 8)),gM 10 9,gG 11 10 false (.mv (.t 0)),gG 12 10 false (.mv (.t 2)),gG 13 10 false (.bin .gtr (.t 11) (.t 12)),gI 14 (.pick (.t 10) (.v (.bool true)) (.t 13)),gM 6 14] (kP [6] [] []))
 .ret))
theorem fc_out : FcT Tryz.prog 41 Tryz.f41 C_out [.t 6] := fc_mk [aN [0,1,2] [] [],aN [6] [] []] Tryz.func41 (by kernel_rfl)
def C_moment : AC := (.seq (.reg false [gI 2 (.mv (.v (.bool false)))] (kP [0] [] []))
 (.seq (.reg false [gM 3 0,gI 4 (.call (.f 41) [(.t 3),(oI 0),(oI 345686399999)]),gI 5 (.un .not (.t 4)),gM 2 5] (kP [2] [] []))
 .ret))
theorem fc_moment : FcT Tryz.prog 185 Tryz.f185 C_moment [.t 2] := fc_mk [aN [0] [] [],aN [2] [] []] Tryz.func185 (by kernel_rfl)
def C_checkSample : AC := (.seq (.reg false [gI 1 (.box (.t 0)),gI 2 (.mv (oI 0))] (kP [1] [1] []))
 (.seq (.block 0 (.seq (.reg false [gI 4 (.fadr 0 (.t 1)),gI 5 (.load false 1 (.t 4)),gI 6 (.call (.f 185) [(.t 5)]),gI 7 (.un .not (.t 6)),gM 3 7] (kP [1,3] [1] []))
 (.cond (.t 3)
 (.seq (.reg false [gI 2 (.mv (oI 1))] (kP [2] [] []))
 .ret)
 (.seq (.reg false [gI 9 (.fadr 2 (.t 1)),gI 10 (.load false 1 (.t 9)),gI 11 (.call (.f 41) [(.t 10),(oI 0),(oI 2)]),gM 8 11] (kP [1,8] [1] []))
 (.cond (.t 8)
 (.seq (.reg false [gI 2 (.mv (oI 4))] (kP [2] [] []))
 .ret)
 (.seq (.reg false [gI 13 (.fadr 1 (.t 1)),gI 14 (.load false 1 (.t 13)),gI 15 (.call (.f 41) [(.t 14),(oI (-1000000)),(oI 1000000)]),gM 12 15] (kP [1,12] [1] []))
 (.cond (.t 12)
 (.seq (.reg false [gI 2 (.mv (oI 1))] (kP [2] [] []))
 .ret)
 (.seq (.reg false [gI 17 (.fadr 2 (.t 1)),gI 18 (.load false 1 (.t 17)),gI 19 (.bin .eql (.t 18) (oI 2)),gM 20 19,gG 21 20 true (.fadr 1 (.t 1)),gG 22 20 true (.load false 1 (.t 21)),gG 23 20 true (.bin .neq (.t 22) (oI 0)),gI 24 (.pick (.t 20) (.t 23) (.v (.bool false))),gM 16 24] (kP [16] [] []))
 (.cond (.t 16)
 (.seq (.reg false [gI 2 (.mv (oI 3))] (kP [2] [] []))
 .ret)
 .skip)))))))))
 (.seq (.reg false [gI 2 (.mv (oI 0))] (kP [2] [] []))
 .ret)))
theorem fc_checkSample : FcT Tryz.prog 148 Tryz.f148 C_checkSample [.t 2] := fc_mk [aN [1] [1] [],aN [1,3] [1] [],aN [2] [] [],aN [1,8] [1] [],aN [2] [] [],aN [1,12] [1] [],aN [2] [] [],aN [16] [] [],aN [2] [] [],aN [2] [] []] Tryz.func148 (by kernel_rfl)
def C_checkSeries : AC := (.seq (.reg false [gI 2 (.mv (oI 0))] (kP [0] [] []))
 (.seq (.seq (.reg false [gM 6 0,gI 7 (.len (.t 6)),gI 8 (.bin .gtr (.t 7) (oI 5000))] (kP [0,8] [] []))
 (.cond (.t 8)
 (.seq (.reg false [gI 2 (.mv (oI 2))] (kP [2] [] []))
 .ret)
 .skip))
 (.seq (.seq (.reg false [gM 9 0,gI 10 (.len (.t 9)),gI 11 (.mv (oI 0))] (kP [0,9,10,11] [] []))
 (.block 0 (.loop (.seq (.reg false [gI 12 (.bin .lss (.t 11) (.t 10))] (kP [0,9,10,11,12] [] []))
 (.seq (.cond (.t 12)
 .skip
 (.exit 0))
 (.seq (.block 1 (.seq (.reg false [gM 13 11,gI 14 (.iadr 3 (.t 9) (.t 11)),gI 15 (.load true 3 (.t 14)),gI 4 (.alloc [(.int .i64 (0)),(.int .i64 (0)),(.int .i64 (0))]),gM 3 13,gN (.store 3 (.t 4) (.t 15))] (kP [0,3,4,9,10,11] [4] []))
 (.seq (.seq (.reg false [gI 16 (.load true 3 (.t 4)),gI 17 (.call (.f 148) [(.t 16)]),gM 5 17] (kP [0,3,4,5,9,10,11] [4] []))
 (.seq (.reg false [gM 18 5,gI 19 (.bin .neq (.t 18) (oI 0))] (kP [0,3,4,5,9,10,11,19] [4] []))
 (.cond (.t 19)
 (.seq (.reg false [gM 20 5,gM 2 20] (kP [2] [] []))
 .ret)
 .skip)))
 (.seq (.reg true [gM 21 3,gI 22 (.bin .gtr (.t 21) (oI 0)),gM 23 22,gG 24 23 true (.fadr 0 (.t 4)),gG 25 23 true (.load false 1 (.t 24)),gG 26 23 true (.mv (.t 0)),gG 27 23 true (.mv (.t 3)),gG 28 23 true (.bin .sub (.t 27) (oI 1)),gG 29 23 true (.iadr 3 (.t 26) (.t 28)),gG 30 23 true (.fadr 0 (.t 29)),gG 31 23 true (.load false 1 (.t 30)),gG 32 23 true (.bin .leq (.t 25) (.t 31)),gI 33 (.pick (.t 23) (.t 32) (.v (.bool false)))] (kP [0,9,10,11,33] [] []))
 (.cond (.t 33)
 (.seq (.reg false [gI 2 (.mv (oI 7))] (kP [2] [] []))
 .ret)
 .skip)))))
 (.reg false [gI 34 (.bin .add (.t 11) (oI 1)),gM 11 34] (kP [0,9,10,11] [] []))))))))
 (.seq (.reg false [gI 2 (.mv (oI 0))] (kP [2] [] []))
 .ret))))
theorem fc_checkSeries : FcT Tryz.prog 109 Tryz.f109 C_checkSeries [.t 2] := fc_mk [aN [0] [] [],aN [0,8] [] [],aN [2] [] [],aN [0,9,10,11] [] [],aN [0,9,10,11,12] [] [],aN [0,3,4,9,10,11] [4] [],aN [0,3,4,5,9,10,11] [4] [],aN [0,3,4,5,9,10,11,19] [4] [],aN [2] [] [],aN [0,9,10,11,33] [] [],aN [2] [] [],aN [0,9,10,11] [] [],aN [2] [] []] Tryz.func109 (by kernel_rfl)
def C_rin1 : AC := (.seq (.reg false [gI 6 (.mv (.v (.bool false)))] (kP [0,1,2] [] []))
 (.seq (.reg false [gM 7 1,gM 8 0,gI 9 (.bin .leq (.t 7) (.t 8)),gM 10 9,gG 11 10 true (.mv (.t 0)),gG 12 10 true (.mv (.t 2)),gG 13 10 true (.bin .leq (.t 11) (.t 12)),gI 14 (.pick (.t 10) (.t 13) (.v (.bool false))),gM 6 14] (kP [6] [] []))
 .ret))
theorem fc_rin1 : FcT Tryz.prog 37 Tryz.f37 C_rin1 [.t 6] := fc_mk [aN [0,1,2] [] [],aN [6] [] []] Tryz.func37 (by kernel_rfl)
abbrev smpV (x : Smp) : Val := .ag (smpC x)
def smpFault (x : Smp) : Int := if x.a < 0 ∨ x.a > 345686399999 then 1 else if x.q < 0 ∨ x.q > 2 then 4 else if x.v < -1000000 ∨ x.v > 1000000 then 1 else if x.q = 2 ∧ x.v ≠ 0 then 3 else 0
def serGo : Option Smp → List Smp → Int
 | _, [] => 0
 | p, x :: t => if smpFault x ≠ 0 then smpFault x else if (match p with | none => false | some y => decide (x.a ≤ y.a)) then 7 else serGo (some x) t
def serFault (l : List Smp) : Int := if 5000 < l.length then 2 else serGo none l
theorem out_fc (n lo hi : Int) : FC Tryz.prog 41 none [iv n, iv lo, iv hi] (fun _ r => r = bv (decide (n < lo ∨ n > hi))) := by
 refine fc_out (by simp +arith) ?_
 unfold C_out
 simp (maxSteps := 1000000) (disch := omega) only [go_sem]
 by_cases h : n < lo <;> simp [h]
theorem moment_fc (n : Int) : FC Tryz.prog 185 none [iv n] (fun _ r => r = bv (decide (0 ≤ n ∧ n ≤ 345686399999))) := by
 refine fc_moment (by simp +arith) ?_
 unfold C_moment
 simp (maxSteps := 1000000) (disch := omega) only [go_sem]
 refine CALL_det (out_fc _ _ _) (.inl rfl) ?_
 simp (maxSteps := 1000000) (disch := omega) only [go_sem]
 exact (bv_congr (by first | (simp; done) | (simp; omega)))
theorem checkSample_fc (x : Smp) : FC Tryz.prog 148 none [smpV x] (fun _ r => r = iv (smpFault x)) := by
 refine fc_checkSample (by simp +arith) ?_
 unfold C_checkSample
 simp (maxSteps := 1000000) (disch := omega) only [go_sem]
 refine CALL_det (moment_fc _) (.inl rfl) ?_
 simp (maxSteps := 1000000) (disch := omega) only [go_sem]
 refine ⟨fun h1 => (iv_congr (by simp only [smpFault]; (repeat' split) <;> (first | omega | simp_all <;> omega))), fun h1 => ?_⟩
 refine CALL_det (out_fc _ _ _) (.inl rfl) ?_
 simp (maxSteps := 1000000) (disch := omega) only [go_sem]
 refine ⟨fun h2 => (iv_congr (by simp only [smpFault]; (repeat' split) <;> (first | omega | simp_all <;> omega))), fun h2 => ?_⟩
 refine CALL_det (out_fc _ _ _) (.inl rfl) ?_
 simp (maxSteps := 1000000) (disch := omega) only [go_sem]
 refine ⟨fun h3 => (iv_congr (by simp only [smpFault]; (repeat' split) <;> (first | omega | simp_all <;> omega))), fun h3 => ⟨fun h4 => ⟨fun h5 => (iv_congr (by simp only [smpFault]; (repeat' split) <;> (first | omega | simp_all <;> omega))), fun h5 => (iv_congr (by simp only [smpFault]; (repeat' split) <;> (first | omega | simp_all <;> omega)))⟩, fun h4 => (iv_congr (by simp only [smpFault]; (repeat' split) <;> (first | omega | simp_all <;> omega)))⟩⟩
theorem serFault_ok {l : List Smp} (h : serFault l = 0) : l.length ≤ 5000 ∧ serGo none l = 0 := by
 unfold serFault at h; split at h
 ·omega
 ·exact ⟨by omega, h⟩
/-- The sample ahead of number i. -/
def prv (l : List Smp) (i : Nat) : Option Smp := if i = 0 then none else some (l.getD (i - 1) default)
theorem serGo_step (l : List Smp) (i : Nat) (h : i < l.length) : serGo (prv l i) (l.drop i) = if smpFault (l.getD i default) ≠ 0 then smpFault (l.getD i default) else if (0 < i ∧ (l.getD i default).a ≤ (l.getD (i - 1) default).a) then 7 else serGo (prv l (i + 1)) (l.drop (i + 1)) := by
 have e : l.drop i = l.getD i default :: l.drop (i + 1) := by
  rw [List.drop_eq_getElem_cons h]; simp [List.getD_eq_getElem?_getD, h]
 rw [e, serGo.eq_def]
 simp only []
 by_cases hi : i = 0
 ·subst hi; simp [prv]
 ·have : 0 < i := by omega
  simp [prv, hi, this]
def csSt (l : List Smp) (i : Int) : AS := ⟨tabV [(0, smps false l), (9, smps false l), (10, iv l.length), (11, iv i)], tabO [], tabO []⟩
theorem checkSeries_fc (l : List Smp) (hl : l.length ≤ 4611686018427387904) : FC Tryz.prog 109 none [smps false l] (fun _ r => r = iv (serFault l)) := by
 refine fc_checkSeries (by simp +arith) ?_
 unfold C_checkSeries
 simp (maxSteps := 1000000) (disch := omega) only [go_sem]
 refine ⟨fun h => iv_congr (by unfold serFault; rw [if_pos (by omega)]), fun h => ?_⟩
 refine ex_loopI (csSt l) (fun i => 0 ≤ i ∧ i ≤ l.length ∧ serGo (prv l i.toNat) (l.drop i.toNat) = serFault l) (fun i => (l.length - i).toNat) 0 ⟨by omega, by omega, by unfold serFault; rw [if_neg (by omega)]; rfl⟩ rfl ?_
 rintro i ⟨g1, g2, g3⟩
 unfold csSt
 simp (maxSteps := 1000000) (disch := omega) only [go_sem]
 refine ⟨fun hi => and_then ⟨by omega, by omega⟩ fun _ => ?_, fun hi => ?_⟩
 ·have g4 := serGo_step l i.toNat (by omega)
  rw [g3] at g4
  rw [getD_map_in smpC l i.toNat [] (by omega)]
  simp (maxSteps := 1000000) (disch := omega) only [go_sem]
  refine CALL_det (checkSample_fc _) (.inl rfl) ?_
  simp (maxSteps := 1000000) (disch := omega) only [go_sem]
  have e1 : (i - 1).toNat = i.toNat - 1 := by omega
  have e2 : (i + 1).toNat = i.toNat + 1 := by omega
  rw [e1]
  refine ⟨fun h1 => iv_congr (by rw [g4, if_pos h1]), fun h1 => ⟨fun h2 => ⟨⟨by omega, by omega⟩, fun h3 => iv_congr (by rw [g4, if_neg h1, if_pos ⟨by omega, h3⟩]), fun h3 => ⟨i + 1, ⟨by omega, by omega, ?_⟩, rfl, by omega⟩⟩, fun h2 => ⟨i + 1, ⟨by omega, by omega, ?_⟩, rfl, by omega⟩⟩⟩
  ·rw [g4, if_neg h1, if_neg (fun h => h3 h.2), e2]
  ·rw [g4, if_neg h1, if_neg (fun h => h2 (by omega)), e2]
 ·refine iv_congr ?_
  rw [← g3, List.drop_eq_nil_of_le (by omega)]
  simp [serGo]
theorem rin1_fc (n lo hi : Int) : FC Tryz.prog 37 none [iv n, iv lo, iv hi] (fun _ r => r = bv (decide (lo ≤ n ∧ n ≤ hi))) := by
 refine fc_rin1 (by simp +arith) ?_
 unfold C_rin1
 simp (maxSteps := 1000000) (disch := omega) only [go_sem]
 (repeat' (first | apply And.intro | intro _)) <;> first | rfl | omega | exact iv_congr (by first | omega | ((try simp only []); (repeat' split) <;> (first | omega | (simp_all; done) | (simp_all; omega)))) | exact bv_dec (by first | omega | ((try simp only []); (repeat' split) <;> omega)) | exact bv_ndec (by first | omega | ((try simp only []); (repeat' split) <;> omega)) | exact bv_f (by first | omega | ((try simp only []); (repeat' split) <;> omega)) | exact bv_t (by first | omega | ((try simp only []); (repeat' split) <;> omega))
end Go.Proofs.YtodmofhehabmgaaGreatDoor
namespace Go.Proofs.YtodmofhehabmgaaGreatDoor
open Go Go.Ai
set_option linter.unusedSimpArgs false
set_option linter.unusedVariables false
set_option maxHeartbeats 4000000
def C_gcd : AC := (.seq (.reg false [gI 4 (.mv (oI 0))] (kP [0,1] [] []))
 (.seq (.block 0 (.loop (.seq (.seq (.reg false [gM 5 1,gI 6 (.bin .neq (.t 5) (oI 0))] (kP [0,1,6] [] []))
 (.cond (.t 6)
 .skip
 (.exit 0)))
 (.block 1 (.reg true [gM 7 1,gM 8 0,gM 9 1,gI 10 (.bin .rem (.t 8) (.t 9)),gM 0 7,gM 1 10] (kP [0,1] [] []))))))
 (.seq (.reg false [gM 11 0,gM 4 11] (kP [4] [] []))
 .ret)))
theorem fc_gcd : FcT Tryz.prog 134 Tryz.f134 C_gcd [.t 4] := fc_mk [aN [0,1] [] [],aN [0,1,6] [] [],aN [0,1] [] [],aN [4] [] []] Tryz.func134 (by kernel_rfl)
def C_divisor : AC := (.seq (.reg false [gI 4 (.mv (oI 0))] (kP [0,1] [] []))
 (.seq (.block 0 (.loop (.seq (.seq (.reg false [gM 5 1,gI 6 (.bin .neq (.t 5) (oI 0))] (kP [0,1,6] [] []))
 (.cond (.t 6)
 .skip
 (.exit 0)))
 (.block 1 (.reg true [gM 7 1,gM 8 0,gM 9 1,gI 10 (.bin .rem (.t 8) (.t 9)),gM 0 7,gM 1 10] (kP [0,1] [] []))))))
 (.seq (.reg false [gM 11 0,gM 4 11] (kP [4] [] []))
 .ret)))
theorem fc_divisor : FcT Tryz.prog 98 Tryz.f98 C_divisor [.t 4] := fc_mk [aN [0,1] [] [],aN [0,1,6] [] [],aN [0,1] [] [],aN [4] [] []] Tryz.func98 (by kernel_rfl)
def C_fraction : AC := (.seq (.reg false [gI 4 (.alloc [(.int .i64 (0)),(.int .i64 (0))])] (kP [0,1,4] [4] []))
 (.seq (.reg false [gM 6 0,gM 7 0,gI 8 (.un .neg (.t 7)),gI 9 (.mnx true (.t 6) (.t 8)),gM 10 1,gI 11 (.call (.f 134) [(.t 9),(.t 10)]),gM 5 11] (kP [0,1,4,5] [4] []))
 (.seq (.reg true [gM 12 0,gM 13 5,gI 14 (.bin .quo (.t 12) (.t 13)),gM 15 1,gM 16 5,gI 17 (.bin .quo (.t 15) (.t 16)),gI 18 (.build [(.int .i64 (0)),(.int .i64 (0))] [(0,1,(.t 14)),(1,1,(.t 17))]),gN (.store 2 (.t 4) (.t 18))] (kP [4] [4] []))
 .ret)))
theorem fc_fraction : FcT Tryz.prog 92 Tryz.f92 C_fraction [.cell 4 true 2] := fc_mk [aN [0,1,4] [4] [],aN [0,1,4,5] [4] [],aN [4] [4] []] Tryz.func92 (by kernel_rfl)
def C_lowest : AC := (.seq (.reg false [gI 4 (.alloc [(.int .i64 (0)),(.int .i64 (0))])] (kP [0,1,4] [4] []))
 (.seq (.reg false [gM 6 0,gM 7 0,gI 8 (.un .neg (.t 7)),gI 9 (.mnx true (.t 6) (.t 8)),gM 10 1,gI 11 (.call (.f 98) [(.t 9),(.t 10)]),gM 5 11] (kP [0,1,4,5] [4] []))
 (.seq (.reg true [gM 12 0,gM 13 5,gI 14 (.bin .quo (.t 12) (.t 13)),gM 15 1,gM 16 5,gI 17 (.bin .quo (.t 15) (.t 16)),gI 18 (.build [(.int .i64 (0)),(.int .i64 (0))] [(0,1,(.t 14)),(1,1,(.t 17))]),gN (.store 2 (.t 4) (.t 18))] (kP [4] [4] []))
 .ret)))
theorem fc_lowest : FcT Tryz.prog 59 Tryz.f59 C_lowest [.cell 4 true 2] := fc_mk [aN [0,1,4] [4] [],aN [0,1,4,5] [4] [],aN [4] [4] []] Tryz.func59 (by kernel_rfl)
def gcdSt (x : Int × Int) : AS := ⟨tabV [(0, iv x.1), (1, iv x.2)], tabO [], tabO []⟩
theorem gcd_fc (a b : Int) (ha : 0 ≤ a) (hb : 0 ≤ b) : FC Tryz.prog 134 none [iv a, iv b] (fun _ r => r = iv (Nat.gcd a.toNat b.toNat)) := by
 refine fc_gcd (by simp +arith) ?_
 unfold C_gcd
 simp (maxSteps := 1000000) (disch := omega) only [go_sem]
 refine ex_loopI gcdSt (fun x => 0 ≤ x.1 ∧ 0 ≤ x.2 ∧ Nat.gcd x.1.toNat x.2.toNat = Nat.gcd a.toNat b.toNat) (fun x => x.2.toNat) (a, b) ⟨ha, hb, rfl⟩ rfl ?_
 rintro ⟨x, y⟩ ⟨h1, h2, h3⟩
 simp only at h1 h2 h3
 unfold gcdSt
 simp (maxSteps := 1000000) (disch := omega) only [go_sem]
 refine ⟨fun h => ⟨h, (y, x.tmod y), ⟨h2, ?_, ?_⟩, rfl, ?_⟩, fun h => ?_⟩
 ·rw [Int.tmod_eq_emod_of_nonneg h1]; exact Int.emod_nonneg _ h
 ·rw [Int.tmod_eq_emod_of_nonneg h1, ← h3, Nat.gcd_comm x.toNat y.toNat, Nat.gcd_rec y.toNat x.toNat, Nat.gcd_comm, Int.toNat_emod h1 h2]
 ·have := Int.emod_lt_of_pos x (show 0 < y by omega)
  have := Int.emod_nonneg x (show y ≠ 0 by omega)
  simp only
  rw [Int.tmod_eq_emod_of_nonneg h1]; omega
 ·have : y = 0 := by omega
  subst this
  refine iv_congr ?_
  rw [← h3]; simp; omega
theorem divisor_fc (a b : Int) (ha : 0 ≤ a) (hb : 0 ≤ b) : FC Tryz.prog 98 none [iv a, iv b] (fun _ r => r = iv (Nat.gcd a.toNat b.toNat)) := by
 refine fc_divisor (by simp +arith) ?_
 unfold C_divisor
 simp (maxSteps := 1000000) (disch := omega) only [go_sem]
 refine ex_loopI gcdSt (fun x => 0 ≤ x.1 ∧ 0 ≤ x.2 ∧ Nat.gcd x.1.toNat x.2.toNat = Nat.gcd a.toNat b.toNat) (fun x => x.2.toNat) (a, b) ⟨ha, hb, rfl⟩ rfl ?_
 rintro ⟨x, y⟩ ⟨h1, h2, h3⟩
 simp only at h1 h2 h3
 unfold gcdSt
 simp (maxSteps := 1000000) (disch := omega) only [go_sem]
 refine ⟨fun h => ⟨h, (y, x.tmod y), ⟨h2, ?_, ?_⟩, rfl, ?_⟩, fun h => ?_⟩
 ·rw [Int.tmod_eq_emod_of_nonneg h1]; exact Int.emod_nonneg _ h
 ·rw [Int.tmod_eq_emod_of_nonneg h1, ← h3, Nat.gcd_comm x.toNat y.toNat, Nat.gcd_rec y.toNat x.toNat, Nat.gcd_comm, Int.toNat_emod h1 h2]
 ·have := Int.emod_lt_of_pos x (show 0 < y by omega)
  have := Int.emod_nonneg x (show y ≠ 0 by omega)
  simp only
  rw [Int.tmod_eq_emod_of_nonneg h1]; omega
 ·have : y = 0 := by omega
  subst this
  refine iv_congr ?_
  rw [← h3]; simp; omega
/-- A fraction's lowest terms. -/
def lowG (n d : Int) : Int := Nat.gcd (max n (0 - n)).toNat d.toNat
theorem lowG_pos (n d : Int) (hd : 1 ≤ d) : 1 ≤ lowG n d := by
 unfold lowG
 have : 0 < Nat.gcd (max n (0 - n)).toNat d.toNat := Nat.gcd_pos_of_pos_right _ (by omega)
 omega
theorem tdiv_bd {n g B : Int} (hg : 1 ≤ g) (h1 : -B ≤ n) (h2 : n ≤ B) : -B ≤ n.tdiv g ∧ n.tdiv g ≤ B := by
 by_cases h : 0 ≤ n
 ·have h3 : 0 ≤ n.tdiv g := Int.tdiv_nonneg h (by omega)
  have h4 : n.tdiv g ≤ n := Int.tdiv_le_self _ h
  omega
 ·have h3 : 0 ≤ (-n).tdiv g := Int.tdiv_nonneg (by omega) (by omega)
  have h4 : (-n).tdiv g ≤ -n := Int.tdiv_le_self _ (by omega)
  rw [Int.neg_tdiv] at h3 h4
  omega
def lowN (n d : Int) : Int := n.tdiv (lowG n d)
def lowD (n d : Int) : Int := d.tdiv (lowG n d)
theorem fraction_fc (n d : Int) (hn : -4611686018427387904 ≤ n ∧ n ≤ 4611686018427387904) (hd : 1 ≤ d) (hd2 : d ≤ 4611686018427387904) : FC Tryz.prog 92 none [iv n, iv d] (fun _ r => r = .ag [.g (.int .i64 (lowN n d)), .g (.int .i64 (lowD n d))]) := by
 refine fc_fraction (by simp +arith) ?_
 unfold C_fraction
 simp (maxSteps := 1000000) (disch := omega) only [go_sem]
 refine CALL_det (gcd_fc _ _ (by omega) (by omega)) (.inl rfl) ?_
 have h1 := lowG_pos n d hd
 have h2 := tdiv_bd h1 hn.1 hn.2
 have h3 := tdiv_bd (n := d) (B := 4611686018427387904) h1 (by omega) hd2
 have e : ((Nat.gcd (max n (0 - n)).toNat d.toNat : Nat) : Int) = lowG n d := rfl
 rw [e]
 simp (maxSteps := 1000000) (disch := omega) only [go_sem]
 rfl
theorem lowest_fc (n d : Int) (hn : -4611686018427387904 ≤ n ∧ n ≤ 4611686018427387904) (hd : 1 ≤ d) (hd2 : d ≤ 4611686018427387904) : FC Tryz.prog 59 none [iv n, iv d] (fun _ r => r = .ag [.g (.int .i64 (lowN n d)), .g (.int .i64 (lowD n d))]) := by
 refine fc_lowest (by simp +arith) ?_
 unfold C_lowest
 simp (maxSteps := 1000000) (disch := omega) only [go_sem]
 refine CALL_det (divisor_fc _ _ (by omega) (by omega)) (.inl rfl) ?_
 have h1 := lowG_pos n d hd
 have h2 := tdiv_bd h1 hn.1 hn.2
 have h3 := tdiv_bd (n := d) (B := 4611686018427387904) h1 (by omega) hd2
 have e : ((Nat.gcd (max n (0 - n)).toNat d.toNat : Nat) : Int) = lowG n d := rfl
 rw [e]
 simp (maxSteps := 1000000) (disch := omega) only [go_sem]
 rfl
def okSmp (x : Smp) : Prop := 0 ≤ x.a ∧ x.a ≤ 345686399999 ∧ -1000000 ≤ x.v ∧ x.v ≤ 1000000 ∧ 0 ≤ x.q ∧ x.q ≤ 2
theorem okSmp_of {x : Smp} (h : smpFault x = 0) : okSmp x ∧ (x.q = 2 → x.v = 0) := by
 unfold smpFault at h; unfold okSmp
 (repeat' split at h) <;> (first | omega | (refine ⟨by omega, fun h' => by simp_all⟩))
/-- The number of the last sample at or before a moment, or -1. -/
def holdGo (at_ : Int) : List Smp → Int → Int → Int
 | [], _, k => k
 | x :: t, i, k => holdGo at_ t (i + 1) (if x.a ≤ at_ then i else k)
def hold (l : List Smp) (at_ : Int) : Int := holdGo at_ l 0 (-1)
theorem drop_cons {α : Type} [Inhabited α] (l : List α) (i : Nat) (h : i < l.length) : l.drop i = l.getD i default :: l.drop (i + 1) := by
 rw [List.drop_eq_getElem_cons h]; simp [List.getD_eq_getElem?_getD, h]
/-- A series that nothing is wrong with. -/
structure Good (l : List Smp) : Prop where
 len : l.length ≤ 5000
 ok : ∀ i, i < l.length → okSmp (l.getD i default)
 bad : ∀ i, i < l.length → (l.getD i default).q = 2 → (l.getD i default).v = 0
 up : ∀ i j, i < j → j < l.length → (l.getD i default).a < (l.getD j default).a
theorem good_of {l : List Smp} (h : serFault l = 0) : Good l := by
 obtain ⟨h1, h2⟩ := serFault_ok h
 have h3 : ∀ i, i ≤ l.length → serGo (prv l i) (l.drop i) = 0 := by
  intro i
  induction i with
  | zero => intro _; simpa [prv] using h2
  | succ i ih =>
   intro hi
   have := ih (by omega)
   rw [serGo_step l i (by omega)] at this
   split at this
   ·contradiction
   ·split at this
    ·omega
    ·exact this
 have h4 : ∀ i, i < l.length → smpFault (l.getD i default) = 0 ∧ (0 < i → (l.getD (i - 1) default).a < (l.getD i default).a) := by
  intro i hi
  have := h3 i (by omega)
  rw [serGo_step l i hi] at this
  split at this
  ·contradiction
  ·rename_i h5
   split at this
   ·omega
   ·rename_i h6
    exact ⟨by omega, fun h7 => by
     have := fun h8 => h6 ⟨h7, h8⟩
     omega⟩
 refine ⟨h1, fun i hi => (okSmp_of (h4 i hi).1).1, fun i hi => (okSmp_of (h4 i hi).1).2, fun i j hij => ?_⟩
 induction j with
 | zero => omega
 | succ j ih =>
  intro hj
  have h5 := (h4 (j + 1) hj).2 (by omega)
  by_cases e : i = j
  ·subst e; exact h5
  ·have h6 := ih (by omega) (by omega)
   simp only [Nat.add_sub_cancel] at h5
   omega
theorem Good.le {l : List Smp} (h : Good l) (i j : Nat) (hij : i ≤ j) (hj : j < l.length) : (l.getD i default).a ≤ (l.getD j default).a := by
 by_cases e : i = j
 ·subst e; omega
 ·have := h.up i j (by omega) hj; omega
/-- A value at a moment: the moment, the fraction, the quality. -/
structure Pt where
 a : Int
 n : Int
 d : Int
 q : Int
 deriving Inhabited
def ptC (x : Pt) : List Cel := [.g (.int .i64 x.a), .g (.int .i64 x.n), .g (.int .i64 x.d), .g (.int .i64 x.q)]
theorem ptC_eq (x : Pt) : ptC x = [.g (.int .i64 x.a), .g (.int .i64 x.n), .g (.int .i64 x.d), .g (.int .i64 x.q)] := (rfl)
theorem frE_pt (l : List Pt) : frE (l.map ptC) = true := frE_map (fun _ => rfl) l
theorem datE_pt (l : List Pt) : datE (l.map ptC) = l.map ptC := datE_map (fun _ => rfl) l
theorem tofE_pt (l : List Pt) : tofE (l.map ptC) = l.map ptC := tofE_map (fun _ => rfl) l
attribute [go_sem] ptC_eq frE_pt datE_pt tofE_pt
def ptZ : Pt := ⟨0, 0, 0, 0⟩
theorem ptZ_a : ptZ.a = 0 := (rfl)
theorem ptZ_n : ptZ.n = 0 := (rfl)
theorem ptZ_d : ptZ.d = 0 := (rfl)
theorem ptZ_q : ptZ.q = 0 := (rfl)
attribute [go_sem] ptZ_a ptZ_n ptZ_d ptZ_q
end Go.Proofs.YtodmofhehabmgaaGreatDoor
namespace Go.Proofs.YtodmofhehabmgaaGreatDoor
open Go Go.Ai
set_option linter.unusedSimpArgs false
set_option linter.unusedVariables false
set_option maxHeartbeats 4000000
def C_below : AC := (.seq (.reg false [gI 4 (.mv (oI 0))] (kP [0,1] [] []))
 (.seq (.seq (.reg false [gM 5 1,gI 6 (.bin .lss (.t 5) (oI 1))] (kP [0,1,6] [] []))
 (.cond (.t 6)
 (.seq (.reg false [gI 4 (.mv (oI 0))] (kP [4] [] []))
 .ret)
 .skip))
 (.seq (.reg false [gM 7 0,gM 8 1,gI 9 (.bin .rem (.t 7) (.t 8)),gM 0 9] (kP [0,1] [] []))
 (.seq (.seq (.reg false [gM 10 0,gI 11 (.bin .lss (.t 10) (oI 0))] (kP [0,1,11] [] []))
 (.cond (.t 11)
 (.reg false [gM 12 0,gM 13 1,gI 14 (.bin .add (.t 12) (.t 13)),gM 0 14] (kP [0] [] []))
 .skip))
 (.seq (.reg false [gM 15 0,gM 4 15] (kP [4] [] []))
 .ret)))))
theorem fc_below : FcT Tryz.prog 80 Tryz.f80 C_below [.t 4] := fc_mk [aN [0,1] [] [],aN [0,1,6] [] [],aN [4] [] [],aN [0,1] [] [],aN [0,1,11] [] [],aN [0] [] [],aN [4] [] []] Tryz.func80 (by kernel_rfl)
def C_next : AC := (.seq (.reg false [gI 4 (.mv (oI 0))] (kP [0,1] [0] []))
 (.seq (.reg false [gM 7 0,gI 8 (.nilchk (.t 7)),gI 9 (.fadr 1 (.t 8)),gI 10 (.load false 1 (.t 9)),gI 11 (.bin .add (.t 10) (oI 1)),gI 12 (.nilchk (.t 7)),gI 13 (.fadr 1 (.t 12)),gN (.store 1 (.t 13) (.t 11))] (kP [0,1] [0] []))
 (.seq (.seq (.reg false [gM 14 0,gI 15 (.nilchk (.t 14)),gI 16 (.fadr 0 (.t 15)),gI 17 (.load false 1 (.t 16)),gI 18 (.len (.t 17)),gI 19 (.bin .eql (.t 18) (oI 0))] (kP [0,1,19] [0] []))
 (.cond (.t 19)
 (.seq (.reg false [gM 20 0,gI 21 (.nilchk (.t 20)),gI 22 (.fadr 1 (.t 21)),gI 23 (.load false 1 (.t 22)),gI 24 (.bin .mul (.t 23) (oI 7919)),gM 25 1,gI 26 (.call (.f 80) [(.t 24),(.t 25)]),gM 4 26] (kP [4] [0] []))
 .ret)
 .skip))
 (.seq (.reg true [gM 27 0,gI 28 (.nilchk (.t 27)),gI 29 (.fadr 1 (.t 28)),gI 30 (.load false 1 (.t 29)),gI 31 (.bin .sub (.t 30) (oI 1)),gM 32 0,gI 33 (.nilchk (.t 32)),gI 34 (.fadr 0 (.t 33)),gI 35 (.load false 1 (.t 34)),gI 36 (.len (.t 35)),gI 37 (.bin .rem (.t 31) (.t 36)),gM 5 37] (kP [0,1,5] [0] []))
 (.seq (.reg true [gM 38 0,gI 39 (.nilchk (.t 38)),gI 40 (.fadr 1 (.t 39)),gI 41 (.load false 1 (.t 40)),gI 42 (.bin .sub (.t 41) (oI 1)),gM 43 0,gI 44 (.nilchk (.t 43)),gI 45 (.fadr 0 (.t 44)),gI 46 (.load false 1 (.t 45)),gI 47 (.len (.t 46)),gI 48 (.bin .quo (.t 42) (.t 47)),gM 6 48] (kP [0,1,5,6] [0] []))
 (.seq (.reg false [gM 49 0,gI 50 (.nilchk (.t 49)),gI 51 (.fadr 0 (.t 50)),gI 52 (.load false 1 (.t 51)),gM 53 5,gI 54 (.iadr 1 (.t 52) (.t 53)),gI 55 (.load false 1 (.t 54)),gI 56 (.call (.f 80) [(.t 55),(oI 1073741824)]),gM 57 6,gM 58 5,gI 59 (.bin .add (oI 7919) (.t 58)),gI 60 (.bin .mul (.t 57) (.t 59)),gI 61 (.bin .add (.t 56) (.t 60)),gM 62 1,gI 63 (.call (.f 80) [(.t 61),(.t 62)]),gM 4 63] (kP [4] [0] []))
 .ret))))))
theorem fc_next : FcT Tryz.prog 31 Tryz.f31 C_next [.t 4] := fc_mk [aN [0,1] [0] [],aN [0,1] [0] [],aN [0,1,19] [0] [],aN [4] [0] [],aN [0,1,5] [0] [],aN [0,1,5,6] [0] [],aN [4] [0] []] Tryz.func31 (by kernel_rfl)
def C_range : AC := (.seq (.reg false [gI 6 (.mv (oI 0))] (kP [0,1,2] [0] []))
 (.seq (.seq (.reg false [gM 7 2,gM 8 1,gI 9 (.bin .lss (.t 7) (.t 8))] (kP [0,1,2,9] [0] []))
 (.cond (.t 9)
 (.seq (.reg false [gM 10 1,gM 6 10] (kP [6] [0] []))
 .ret)
 .skip))
 (.seq (.reg false [gM 11 1,gM 12 0,gM 13 2,gM 14 1,gI 15 (.bin .sub (.t 13) (.t 14)),gI 16 (.bin .add (.t 15) (oI 1)),gI 17 (.callx (.f 31) [(.t 12),(.t 16)]),gI 18 (.bin .add (.t 11) (.t 17)),gM 6 18] (kP [6] [0] []))
 .ret)))
theorem fc_range : FcT Tryz.prog 81 Tryz.f81 C_range [.t 6] := fc_mk [aN [0,1,2] [0] [],aN [0,1,2,9] [0] [],aN [6] [0] [],aN [6] [0] []] Tryz.func81 (by kernel_rfl)
def C_flip : AC := (.seq (.reg false [gI 4 (.mv (.v (.bool false)))] (kP [0,1] [0] []))
 (.seq (.reg false [gM 5 0,gM 6 1,gI 7 (.callx (.f 31) [(.t 5),(.t 6)]),gI 8 (.bin .eql (.t 7) (oI 0)),gM 4 8] (kP [4] [0] []))
 .ret))
theorem fc_flip : FcT Tryz.prog 7 Tryz.f7 C_flip [.t 4] := fc_mk [aN [0,1] [0] [],aN [4] [0] []] Tryz.func7 (by kernel_rfl)
def C_pick : AC := (.seq (.reg false [gI 4 (.mv (oI 0))] (kP [0,1] [0] []))
 (.seq (.reg false [gM 5 1,gM 6 0,gM 7 1,gI 8 (.len (.t 7)),gI 9 (.callx (.f 31) [(.t 6),(.t 8)]),gI 10 (.iadr 1 (.t 5) (.t 9)),gI 11 (.load false 1 (.t 10)),gM 4 11] (kP [4] [0] []))
 .ret))
theorem fc_pick : FcT Tryz.prog 30 Tryz.f30 C_pick [.t 4] := fc_mk [aN [0,1] [0] [],aN [4] [0] []] Tryz.func30 (by kernel_rfl)
def C_odd : AC := (.seq (.reg false [gI 6 (.mv (oI 0))] (kP [0,1,2] [0] []))
 (.seq (.seq (.reg false [gM 7 0,gI 8 (.callx (.f 7) [(.t 7),(oI 12)])] (kP [0,1,2,8] [0] []))
 (.cond (.t 8)
 (.seq (.reg false [gM 9 0,gM 10 1,gI 11 (.bin .sub (.t 10) (oI 1)),gM 12 2,gI 13 (.bin .add (.t 12) (oI 1)),gM 14 1,gM 15 2,gI 16 (.bslice 1 6 [(.t 11),(.t 13),(.t 14),(.t 15),(oI (-1099511627776)),(oI 1099511627776)]),gI 17 (.callx (.f 30) [(.t 9),(.t 16)]),gM 6 17] (kP [6] [0] []))
 .ret)
 .skip))
 (.seq (.reg false [gM 18 0,gM 19 1,gM 20 2,gI 21 (.callx (.f 81) [(.t 18),(.t 19),(.t 20)]),gM 6 21] (kP [6] [0] []))
 .ret)))
theorem fc_odd : FcT Tryz.prog 32 Tryz.f32 C_odd [.t 6] := fc_mk [aN [0,1,2] [0] [],aN [0,1,2,8] [0] [],aN [6] [0] [],aN [6] [0] []] Tryz.func32 (by kernel_rfl)
theorem below_fc (x n : Int) (h1 : 1 ≤ n) (hn : n ≤ 9223372036854775807) (hx : I64 x) : FC Tryz.prog 80 none [iv x, iv n] (fun _ r => r = iv (x % n)) := by
 refine fc_below (by simp +arith) ?_
 obtain ⟨hx1, hx2⟩ := hx
 unfold C_below
 simp (maxSteps := 1000000) (disch := omega) only [go_sem]
 have e1 : x.tmod n = if 0 ≤ x then x % n else if n ∣ x then 0 else x % n - n := by
  rw [Int.tmod_eq_emod]
  by_cases h3 : 0 ≤ x
  ·simp [h3]
  ·by_cases h4 : n ∣ x
   ·simp [h4, Int.emod_eq_zero_of_dvd h4]
   ·simp only [h3, h4, or_self, if_false]; omega
 have e2 := Int.emod_nonneg x (show n ≠ 0 by omega)
 have e3 := Int.emod_lt_of_pos x (show 0 < n by omega)
 have e4 : n ∣ x → x % n = 0 := fun h => Int.emod_eq_zero_of_dvd h
 refine ⟨fun h => ?_, fun h => ?_⟩
 ·rw [e1] at h ⊢
  split at h
  ·omega
  ·rename_i h3
   rw [if_neg h3]
   split at h
   ·omega
   ·rename_i h4
    rw [if_neg h4, wrap_i64 _ (by omega) (by omega)]
    show iv _ = iv _
    congr 4
    omega
 ·rw [e1] at h ⊢
  split at h
  ·rename_i h3; rw [if_pos h3]
  ·rename_i h3
   rw [if_neg h3]
   split at h
   ·rename_i h4; rw [if_pos h4, e4 h4]
   ·omega
end Go.Proofs.YtodmofhehabmgaaGreatDoor
namespace Go.Proofs.YtodmofhehabmgaaGreatDoor
open Go Go.Ai
set_option linter.unusedSimpArgs false
set_option linter.unusedVariables false
set_option maxHeartbeats 4000000
end Go.Proofs.YtodmofhehabmgaaGreatDoor


/-
 What is common to the functions that draw numbers from a stream: how their contracts read, and how a call of one is met.
 What is wrong with samples, series, moments, windows: the program's answer and the reference's are one.
 The value of a series at a moment: the program's way (binary search) and the reference's (a walk over all samples) come to one answer.
 The streams of numbers: Below, Next, Range, Flip, Pick, Odd: what they draw and hand back.
 The curves that streams draw: AMoment, ASpan, Curve.
-/
import Derived.Test.YtdhkejcldipbmaaGreatDoorAiE
import Derived.Test.YtdhkejcldipbmaaGreatDoorProg
namespace Go.Ai
open Go
set_option linter.unusedSimpArgs false
set_option linter.unusedVariables false
set_option maxHeartbeats 4000000
def intC (n : Int) : List Cel := [.g (.int .i64 n)]
abbrev ints (fr : Bool) (l : List Int) : Val := .one (.sl fr 1 (l.map intC))
/-- In the range of Go's int. -/
def I64 (n : Int) : Prop := -9223372036854775808 ≤ n ∧ n ≤ 9223372036854775807
/-- The box of a stream. -/
def strm (L : List Int) (at_ : Int) : List Cel := [.sl false 1 (L.map intC), .g (.int .i64 at_)]
theorem strm_eq (L : List Int) (at_ : Int) : strm L at_ = [.sl false 1 (L.map intC), .g (.int .i64 at_)] := (rfl)
/-- f draws at most n numbers and hands back an R. -/
def Gen (P : Program) (f : FuncId) (args : List Val) (n : Nat) (R : Val → Prop) : Prop :=
 ∀ (L : List Int) (p : Int), (∀ x ∈ L, I64 x) → L.length ≤ 9223372036854775807 → 0 ≤ p → p + n ≤ 4611686018427387904 →
  FC P f (some (strm L p)) args fun cs r => (∃ p', p ≤ p' ∧ p' ≤ p + n ∧ cs = strm L p') ∧ R r
theorem wrap_in (n : Int) : I64 (IntKind.i64.wrap n) := by
 unfold I64
 rw [IntKind.wrap_i64]
 omega
theorem and_then {p q : Prop} (hp : p) (hq : p → q) : p ∧ q := ⟨hp, hq hp⟩
theorem getD_map_in {α β : Type} [Inhabited α] (f : α → β) (l : List α) (i : Nat) (d : β) (h : i < l.length) : (l.map f).getD i d = f (l.getD i default) := by
 simp [List.getD_eq_getElem?_getD, h]
theorem getD_mem {α : Type} [Inhabited α] (l : List α) (i : Nat) (h : i < l.length) : l.getD i default ∈ l := by
 simp [List.getD_eq_getElem?_getD, h]
theorem intC_eq (n : Int) : intC n = [.g (.int .i64 n)] := (rfl)
attribute [go_sem] getD_map_in List.length_map intC_eq
variable {P : Program} {Q : AX → AS → Prop} {s : AS} {k : List KI} {kp : Option Keep} {l : List GI}
theorem callx_gen {f : FuncId} {args : List Val} {n : Nat} {R : Val → Prop} {L : List Int} {p : Int} {key : Nat} {d : Option Nat} (h : Gen P f args n R) (hL : ∀ x ∈ L, I64 x) (hl : L.length ≤ 9223372036854775807) (h0 : 0 ≤ p) (hn : p + n ≤ 4611686018427387904)
  (hne : ∃ r, R r) (hk : ∀ p' r, p ≤ p' → p' ≤ p + n → R r → dataRV r = true ∧ rg P l kp k Q ({ s with bx := upd s.bx key (some (strm L p')) }.put d r)) :
  CALLX P f key (strm L p) args d l kp k Q s := by
 obtain ⟨r0, hr0⟩ := hne
 refine ⟨_, h L p hL hl h0 hn, ⟨_, r0, ⟨p, Int.le_refl _, by omega, rfl⟩, hr0⟩, ?_⟩
 rintro cs r ⟨⟨p', h1, h2, rfl⟩, hr⟩
 obtain ⟨h3, h4⟩ := hk p' r h1 h2 hr
 exact ⟨h3, rfl, h4⟩
theorem getE_map_in {α β : Type} [Inhabited α] (f : α → β) (l : List α) (i : Nat) (h : i < l.length) : (l.map f)[i]? = some (f (l.getD i default)) := by
 simp [List.getD_eq_getElem?_getD, h]
theorem map_snoc {α β : Type} (f : α → β) (l : List α) (x : α) : l.map f ++ [f x] = (l ++ [x]).map f := by simp
attribute [go_sem] getE_map_in Bool.not_eq_true' Bool.not_eq_false'
theorem iv_congr {a b : Int} (h : a = b) : Val.one (.g (.int .i64 a)) = iv b := by rw [h]
theorem bv_congr {a b : Bool} (h : a = true ↔ b = true) : Val.one (.g (.bool a)) = bv b := by
 have : a = b := by cases a <;> cases b <;> simp_all
 rw [this]
theorem bv_dec {p q : Prop} [Decidable p] [Decidable q] (h : p ↔ q) : Val.one (.g (.bool (decide p))) = bv (decide q) := by simp [h]
theorem bv_ndec {p q : Prop} [Decidable p] [Decidable q] (h : ¬p ↔ q) : Val.one (.g (.bool (!decide p))) = bv (decide q) := by simp [← h]
theorem bv_f {q : Prop} [Decidable q] (h : ¬q) : Val.one (.g (.bool false)) = bv (decide q) := by simp [h]
theorem bv_t {q : Prop} [Decidable q] (h : q) : Val.one (.g (.bool true)) = bv (decide q) := by simp [h]
/-- A sample: its moment, value and quality. -/
structure Smp where
 a : Int
 v : Int
 q : Int
 deriving Inhabited
def smpC (x : Smp) : List Cel := [.g (.int .i64 x.a), .g (.int .i64 x.v), .g (.int .i64 x.q)]
theorem smpC_eq (x : Smp) : smpC x = [.g (.int .i64 x.a), .g (.int .i64 x.v), .g (.int .i64 x.q)] := (rfl)
attribute [go_sem] smpC_eq
def Smp.in64 (x : Smp) : Prop := I64 x.a ∧ I64 x.v ∧ I64 x.q
abbrev smps (fr : Bool) (l : List Smp) : Val := .one (.sl fr 3 (l.map smpC))
theorem frE_map {α : Type} {f : α → List Cel} (h : ∀ x, (f x).all freshC = true) (l : List α) : frE (l.map f) = true := by
 simp only [frE, List.all_eq_true, List.mem_map]
 rintro e ⟨x, _, rfl⟩
 exact List.all_eq_true.1 (h x)
theorem datE_map {α : Type} {f : α → List Cel} (h : ∀ x, (f x).map Cel.dat = f x) (l : List α) : datE (l.map f) = l.map f := by simp [datE, Function.comp_def, h]
theorem tofE_map {α : Type} {f : α → List Cel} (h : ∀ x, (f x).map Cel.tof = f x) (l : List α) : tofE (l.map f) = l.map f := by simp [tofE, Function.comp_def, h]
theorem frE_set {es : List (List Cel)} {e : List Cel} {i : Nat} (h : frE es = true) (he : e.all freshC = true) : frE (es.set i e) = true := by
 simp only [frE, List.all_eq_true] at *
 intro x hx
 rcases List.mem_or_eq_of_mem_set hx with h1 | rfl
 ·exact h x h1
 ·exact he
theorem frE_int (l : List Int) : frE (l.map intC) = true := frE_map (fun _ => rfl) l
theorem datE_int (l : List Int) : datE (l.map intC) = l.map intC := datE_map (fun _ => rfl) l
theorem tofE_int (l : List Int) : tofE (l.map intC) = l.map intC := tofE_map (fun _ => rfl) l
theorem frE_smp (l : List Smp) : frE (l.map smpC) = true := frE_map (fun _ => rfl) l
theorem datE_smp (l : List Smp) : datE (l.map smpC) = l.map smpC := datE_map (fun _ => rfl) l
theorem tofE_smp (l : List Smp) : tofE (l.map smpC) = l.map smpC := tofE_map (fun _ => rfl) l
attribute [go_sem] frE_int datE_int tofE_int frE_smp datE_smp tofE_smp
end Go.Ai
namespace Go.Proofs.YtdhkejcldipbmaaGreatDoor
open Go Go.Ai
set_option linter.unusedSimpArgs false
set_option linter.unusedVariables false
set_option maxHeartbeats 4000000
def C_out : AC := (.seq (.reg false [gI 6 (.mv (.v (.bool false)))] (kP [0,1,2] [] []))
 (.seq (.reg false [gM 7 0,gM 8 1,gI 9 (.bin .lss (.t 7) (.t 8)),gM 10 9,gG 11 10 false (.mv (.t 0)),gG 12 10 false (.mv (.t 2)),gG 13 10 false (.bin .gtr (.t 11) (.t 12)),gI 14 (.pick (.t 10) (.v (.bool true)) (.t 13)),gM 6 14] (kP [6] [] []))
 .ret))
theorem fc_out : FcT Tryz.prog 183 Tryz.f183 C_out [.t 6] := fc_mk [aN [0,1,2] [] [],aN [6] [] []] Tryz.func183 (by kernel_rfl)
def C_moment : AC := (.seq (.reg false [gI 2 (.mv (.v (.bool false)))] (kP [0] [] []))
 (.seq (.reg false [gM 3 0,gI 4 (.call (.f 183) [(.t 3),(oI 0),(oI 345686399999)]),gI 5 (.un .not (.t 4)),gM 2 5] (kP [2] [] []))
 .ret))
theorem fc_moment : FcT Tryz.prog 144 Tryz.f144 C_moment [.t 2] := fc_mk [aN [0] [] [],aN [2] [] []] Tryz.func144 (by kernel_rfl)
def C_in_ : AC := (.seq (.reg false [gI 6 (.mv (.v (.bool false)))] (kP [0,1,2] [] []))
 (.seq (.reg false [gM 7 1,gM 8 0,gI 9 (.bin .leq (.t 7) (.t 8)),gM 10 9,gG 11 10 true (.mv (.t 0)),gG 12 10 true (.mv (.t 2)),gG 13 10 true (.bin .leq (.t 11) (.t 12)),gI 14 (.pick (.t 10) (.t 13) (.v (.bool false))),gM 6 14] (kP [6] [] []))
 .ret))
theorem fc_in_ : FcT Tryz.prog 122 Tryz.f122 C_in_ [.t 6] := fc_mk [aN [0,1,2] [] [],aN [6] [] []] Tryz.func122 (by kernel_rfl)
def C_rmoment2 : AC := (.seq (.reg false [gI 2 (.mv (.v (.bool false)))] (kP [0] [] []))
 (.seq (.reg false [gM 3 0,gI 4 (.call (.f 122) [(.t 3),(oI 0),(oI 345686399999)]),gM 2 4] (kP [2] [] []))
 .ret))
theorem fc_rmoment2 : FcT Tryz.prog 131 Tryz.f131 C_rmoment2 [.t 2] := fc_mk [aN [0] [] [],aN [2] [] []] Tryz.func131 (by kernel_rfl)
def C_spanFault1 : AC := (.seq (.reg false [gI 6 (.mv (oI 0))] (kP [0,1,2] [] []))
 (.seq (.seq (.reg false [gM 7 0,gM 8 1,gM 9 2,gI 10 (.call (.f 75) [(.t 7),(.t 8),(.t 9)]),gI 11 (.un .not (.t 10))] (kP [11] [] []))
 (.cond (.t 11)
 (.seq (.reg false [gI 6 (.mv (oI 1))] (kP [6] [] []))
 .ret)
 .skip))
 (.seq (.reg false [gI 6 (.mv (oI 0))] (kP [6] [] []))
 .ret)))
theorem fc_spanFault1 : FcT Tryz.prog 175 Tryz.f175 C_spanFault1 [.t 6] := fc_mk [aN [0,1,2] [] [],aN [11] [] [],aN [6] [] [],aN [6] [] []] Tryz.func175 (by kernel_rfl)
def C_rin1 : AC := (.seq (.reg false [gI 6 (.mv (.v (.bool false)))] (kP [0,1,2] [] []))
 (.seq (.reg false [gM 7 1,gM 8 0,gI 9 (.bin .leq (.t 7) (.t 8)),gM 10 9,gG 11 10 true (.mv (.t 0)),gG 12 10 true (.mv (.t 2)),gG 13 10 true (.bin .leq (.t 11) (.t 12)),gI 14 (.pick (.t 10) (.t 13) (.v (.bool false))),gM 6 14] (kP [6] [] []))
 .ret))
theorem fc_rin1 : FcT Tryz.prog 75 Tryz.f75 C_rin1 [.t 6] := fc_mk [aN [0,1,2] [] [],aN [6] [] []] Tryz.func75 (by kernel_rfl)
abbrev smpV (x : Smp) : Val := .ag (smpC x)
abbrev winV (f t : Int) : Val := .ag [.g (.int .i64 f), .g (.int .i64 t)]
def MAXT : Int := 345686399999
def smpFault (x : Smp) : Int := if x.a < 0 ∨ x.a > 345686399999 then 1 else if x.q < 0 ∨ x.q > 2 then 4 else if x.v < -1000000 ∨ x.v > 1000000 then 1 else if x.q = 2 ∧ x.v ≠ 0 then 3 else 0
def serGo : Option Smp → List Smp → Int
 | _, [] => 0
 | p, x :: t => if smpFault x ≠ 0 then smpFault x else if (match p with | none => false | some y => decide (x.a ≤ y.a)) then 7 else serGo (some x) t
def serFault (l : List Smp) : Int := if 5000 < l.length then 2 else serGo none l
def winFault (f t : Int) : Int := if f < 0 ∨ f > t ∨ t > 345686400000 then 1 else 0
theorem out_fc (n lo hi : Int) : FC Tryz.prog 183 none [iv n, iv lo, iv hi] (fun _ r => r = bv (decide (n < lo ∨ n > hi))) := by
 refine fc_out (by simp +arith) ?_
 unfold C_out
 simp (maxSteps := 1000000) (disch := omega) only [go_sem]
 by_cases h : n < lo <;> simp [h]
theorem moment_fc (n : Int) : FC Tryz.prog 144 none [iv n] (fun _ r => r = bv (decide (0 ≤ n ∧ n ≤ 345686399999))) := by
 refine fc_moment (by simp +arith) ?_
 unfold C_moment
 simp (maxSteps := 1000000) (disch := omega) only [go_sem]
 refine CALL_det (out_fc _ _ _) (.inl rfl) ?_
 simp (maxSteps := 1000000) (disch := omega) only [go_sem]
 exact (bv_congr (by first | (simp; done) | (simp; omega)))
theorem serFault_ok {l : List Smp} (h : serFault l = 0) : l.length ≤ 5000 ∧ serGo none l = 0 := by
 unfold serFault at h; split at h
 ·omega
 ·exact ⟨by omega, h⟩
/-- The sample ahead of number i. -/
def prv (l : List Smp) (i : Nat) : Option Smp := if i = 0 then none else some (l.getD (i - 1) default)
theorem serGo_step (l : List Smp) (i : Nat) (h : i < l.length) : serGo (prv l i) (l.drop i) = if smpFault (l.getD i default) ≠ 0 then smpFault (l.getD i default) else if (0 < i ∧ (l.getD i default).a ≤ (l.getD (i - 1) default).a) then 7 else serGo (prv l (i + 1)) (l.drop (i + 1)) := by
 have e : l.drop i = l.getD i default :: l.drop (i + 1) := by
  rw [List.drop_eq_getElem_cons h]; simp [List.getD_eq_getElem?_getD, h]
 rw [e, serGo.eq_def]
 simp only []
 by_cases hi : i = 0
 ·subst hi; simp [prv]
 ·have : 0 < i := by omega
  simp [prv, hi, this]
def csSt (l : List Smp) (i : Int) : AS := ⟨tabV [(0, smps false l), (9, smps false l), (10, iv l.length), (11, iv i)], tabO [], tabO []⟩
theorem in_fc (n lo hi : Int) : FC Tryz.prog 122 none [iv n, iv lo, iv hi] (fun _ r => r = bv (decide (lo ≤ n ∧ n ≤ hi))) := by
 refine fc_in_ (by simp +arith) ?_
 unfold C_in_
 simp (maxSteps := 1000000) (disch := omega) only [go_sem]
 (repeat' (first | apply And.intro | intro _)) <;> first | rfl | omega | exact iv_congr (by first | omega | ((try simp only []); (repeat' split) <;> (first | omega | (simp_all; done) | (simp_all; omega)))) | exact bv_dec (by first | omega | ((try simp only []); (repeat' split) <;> omega)) | exact bv_ndec (by first | omega | ((try simp only []); (repeat' split) <;> omega)) | exact bv_f (by first | omega | ((try simp only []); (repeat' split) <;> omega)) | exact bv_t (by first | omega | ((try simp only []); (repeat' split) <;> omega))
theorem rmoment2_fc (n : Int) : FC Tryz.prog 131 none [iv n] (fun _ r => r = bv (decide (0 ≤ n ∧ n ≤ 345686399999))) := by
 refine fc_rmoment2 (by simp +arith) ?_
 unfold C_rmoment2
 simp (maxSteps := 1000000) (disch := omega) only [go_sem]
 refine CALL_det (in_fc _ _ _) (.inl rfl) ?_
 simp (maxSteps := 1000000) (disch := omega) only [go_sem]
def momFault (n : Int) : Int := if 0 ≤ n ∧ n ≤ 345686399999 then 0 else 1
theorem rin1_fc (n lo hi : Int) : FC Tryz.prog 75 none [iv n, iv lo, iv hi] (fun _ r => r = bv (decide (lo ≤ n ∧ n ≤ hi))) := by
 refine fc_rin1 (by simp +arith) ?_
 unfold C_rin1
 simp (maxSteps := 1000000) (disch := omega) only [go_sem]
 (repeat' (first | apply And.intro | intro _)) <;> first | rfl | omega | exact iv_congr (by first | omega | ((try simp only []); (repeat' split) <;> (first | omega | (simp_all; done) | (simp_all; omega)))) | exact bv_dec (by first | omega | ((try simp only []); (repeat' split) <;> omega)) | exact bv_ndec (by first | omega | ((try simp only []); (repeat' split) <;> omega)) | exact bv_f (by first | omega | ((try simp only []); (repeat' split) <;> omega)) | exact bv_t (by first | omega | ((try simp only []); (repeat' split) <;> omega))
theorem spanFault1_fc (n lo hi : Int) : FC Tryz.prog 175 none [iv n, iv lo, iv hi] (fun _ r => r = iv (if lo ≤ n ∧ n ≤ hi then 0 else 1)) := by
 refine fc_spanFault1 (by simp +arith) ?_
 unfold C_spanFault1
 simp (maxSteps := 1000000) (disch := omega) only [go_sem]
 refine CALL_det (rin1_fc _ _ _) (.inl rfl) ?_
 simp (maxSteps := 1000000) (disch := omega) only [go_sem]
 (repeat' (first | apply And.intro | intro _)) <;> first | rfl | omega | exact iv_congr (by first | omega | ((try simp only []); (repeat' split) <;> (first | omega | (simp_all; done) | (simp_all; omega)))) | exact bv_dec (by first | omega | ((try simp only []); (repeat' split) <;> omega)) | exact bv_ndec (by first | omega | ((try simp only []); (repeat' split) <;> omega)) | exact bv_f (by first | omega | ((try simp only []); (repeat' split) <;> omega)) | exact bv_t (by first | omega | ((try simp only []); (repeat' split) <;> omega))
def evFault (f t e : Int) : Int := if 1 ≤ e ∧ e ≤ 86400000 then (if 5000 < (t - f + e - 1).tdiv e then 2 else 0) else 1
/-- What is wrong with a series and a window. -/
def bothFault (l : List Smp) (f t : Int) : Int := if serFault l ≠ 0 then serFault l else winFault f t
end Go.Proofs.YtdhkejcldipbmaaGreatDoor
namespace Go.Proofs.YtdhkejcldipbmaaGreatDoor
open Go Go.Ai
set_option linter.unusedSimpArgs false
set_option linter.unusedVariables false
set_option maxHeartbeats 4000000
theorem tu2_congr {a b c d : Val} (h1 : a = c) (h2 : b = d) : Val.tu [a, b] = .tu [c, d] := by rw [h1, h2]
theorem tu3_congr {a b c d e f : Val} (h1 : a = d) (h2 : b = e) (h3 : c = f) : Val.tu [a, b, c] = .tu [d, e, f] := by rw [h1, h2, h3]
def gcdSt (x : Int × Int) : AS := ⟨tabV [(0, iv x.1), (1, iv x.2)], tabO [], tabO []⟩
/-- A fraction's lowest terms. -/
def lowG (n d : Int) : Int := Nat.gcd (max n (0 - n)).toNat d.toNat
theorem lowG_pos (n d : Int) (hd : 1 ≤ d) : 1 ≤ lowG n d := by
 unfold lowG
 have : 0 < Nat.gcd (max n (0 - n)).toNat d.toNat := Nat.gcd_pos_of_pos_right _ (by omega)
 omega
theorem tdiv_bd {n g B : Int} (hg : 1 ≤ g) (h1 : -B ≤ n) (h2 : n ≤ B) : -B ≤ n.tdiv g ∧ n.tdiv g ≤ B := by
 by_cases h : 0 ≤ n
 ·have h3 : 0 ≤ n.tdiv g := Int.tdiv_nonneg h (by omega)
  have h4 : n.tdiv g ≤ n := Int.tdiv_le_self _ h
  omega
 ·have h3 : 0 ≤ (-n).tdiv g := Int.tdiv_nonneg (by omega) (by omega)
  have h4 : (-n).tdiv g ≤ -n := Int.tdiv_le_self _ (by omega)
  rw [Int.neg_tdiv] at h3 h4
  omega
def lowN (n d : Int) : Int := n.tdiv (lowG n d)
def lowD (n d : Int) : Int := d.tdiv (lowG n d)
theorem mul_bd {a b A B : Int} (ha : -A ≤ a ∧ a ≤ A) (hb : -B ≤ b ∧ b ≤ B) : -(A * B) ≤ a * b ∧ a * b ≤ A * B := by
 have h : (a * b).natAbs ≤ A.natAbs * B.natAbs := by
  rw [Int.natAbs_mul]; exact Nat.mul_le_mul (by omega) (by omega)
 have h2 : ((A.natAbs * B.natAbs : Nat) : Int) = A * B := by
  rw [Int.natCast_mul]
  rw [Int.natAbs_of_nonneg (by omega), Int.natAbs_of_nonneg (by omega)]
 omega
/-- The numerator of the value on the line between two samples. -/
def lineN (p n : Smp) (at_ : Int) : Int := p.v * (n.a - p.a) + (n.v - p.v) * (at_ - p.a)
def okSmp (x : Smp) : Prop := 0 ≤ x.a ∧ x.a ≤ 345686399999 ∧ -1000000 ≤ x.v ∧ x.v ≤ 1000000 ∧ 0 ≤ x.q ∧ x.q ≤ 2
theorem okSmp_of {x : Smp} (h : smpFault x = 0) : okSmp x ∧ (x.q = 2 → x.v = 0) := by
 unfold smpFault at h; unfold okSmp
 (repeat' split at h) <;> (first | omega | (refine ⟨by omega, fun h' => by simp_all⟩))
theorem lineN_bd {p n : Smp} {at_ : Int} (hp : okSmp p) (hn : okSmp n) (ha : 0 ≤ at_ ∧ at_ ≤ 345686400000) :
  (-1000000000000000000 ≤ p.v * (n.a - p.a) ∧ p.v * (n.a - p.a) ≤ 1000000000000000000) ∧ (-1000000000000000000 ≤ (n.v - p.v) * (at_ - p.a) ∧ (n.v - p.v) * (at_ - p.a) ≤ 1000000000000000000) := by
 obtain ⟨h1, h2, h3, h4, h5, h6⟩ := hp
 obtain ⟨g1, g2, g3, g4, g5, g6⟩ := hn
 have e1 := mul_bd (a := p.v) (b := n.a - p.a) (A := 1000000) (B := 345686400000) ⟨by omega, by omega⟩ ⟨by omega, by omega⟩
 have e2 := mul_bd (a := n.v - p.v) (b := at_ - p.a) (A := 2000000) (B := 345686400000) ⟨by omega, by omega⟩ ⟨by omega, by omega⟩
 omega
/-- The number of the last sample at or before a moment, or -1. -/
def holdGo (at_ : Int) : List Smp → Int → Int → Int
 | [], _, k => k
 | x :: t, i, k => holdGo at_ t (i + 1) (if x.a ≤ at_ then i else k)
def hold (l : List Smp) (at_ : Int) : Int := holdGo at_ l 0 (-1)
theorem drop_cons {α : Type} [Inhabited α] (l : List α) (i : Nat) (h : i < l.length) : l.drop i = l.getD i default :: l.drop (i + 1) := by
 rw [List.drop_eq_getElem_cons h]; simp [List.getD_eq_getElem?_getD, h]
def holdsSt (l : List Smp) (at_ : Int) (x : Int × Int) : AS := ⟨tabV [(1, iv at_), (5, iv x.2), (8, smps false l), (9, iv l.length), (10, iv x.1)], tabO [], tabO []⟩
/-- A series that nothing is wrong with. -/
structure Good (l : List Smp) : Prop where
 len : l.length ≤ 5000
 ok : ∀ i, i < l.length → okSmp (l.getD i default)
 bad : ∀ i, i < l.length → (l.getD i default).q = 2 → (l.getD i default).v = 0
 up : ∀ i j, i < j → j < l.length → (l.getD i default).a < (l.getD j default).a
theorem good_of {l : List Smp} (h : serFault l = 0) : Good l := by
 obtain ⟨h1, h2⟩ := serFault_ok h
 have h3 : ∀ i, i ≤ l.length → serGo (prv l i) (l.drop i) = 0 := by
  intro i
  induction i with
  | zero => intro _; simpa [prv] using h2
  | succ i ih =>
   intro hi
   have := ih (by omega)
   rw [serGo_step l i (by omega)] at this
   split at this
   ·contradiction
   ·split at this
    ·omega
    ·exact this
 have h4 : ∀ i, i < l.length → smpFault (l.getD i default) = 0 ∧ (0 < i → (l.getD (i - 1) default).a < (l.getD i default).a) := by
  intro i hi
  have := h3 i (by omega)
  rw [serGo_step l i hi] at this
  split at this
  ·contradiction
  ·rename_i h5
   split at this
   ·omega
   ·rename_i h6
    exact ⟨by omega, fun h7 => by
     have := fun h8 => h6 ⟨h7, h8⟩
     omega⟩
 refine ⟨h1, fun i hi => (okSmp_of (h4 i hi).1).1, fun i hi => (okSmp_of (h4 i hi).1).2, fun i j hij => ?_⟩
 induction j with
 | zero => omega
 | succ j ih =>
  intro hj
  have h5 := (h4 (j + 1) hj).2 (by omega)
  by_cases e : i = j
  ·subst e; exact h5
  ·have h6 := ih (by omega) (by omega)
   simp only [Nat.add_sub_cancel] at h5
   omega
theorem Good.le {l : List Smp} (h : Good l) (i j : Nat) (hij : i ≤ j) (hj : j < l.length) : (l.getD i default).a ≤ (l.getD j default).a := by
 by_cases e : i = j
 ·subst e; omega
 ·have := h.up i j (by omega) hj; omega
theorem holdGo_spec (at_ : Int) : ∀ (l : List Smp) (i k : Int), (∀ x ∈ l, at_ < x.a) → holdGo at_ l i k = k
 | [], _, _, _ => rfl
 | x :: t, i, k, h => by
  have h1 := h x (by simp)
  rw [holdGo, if_neg (by omega)]
  exact holdGo_spec at_ t _ _ (fun y hy => h y (by simp [hy]))
theorem holdGo_last (at_ : Int) : ∀ (l : List Smp) (i k : Int) (n : Nat), n < l.length → (l.getD n default).a ≤ at_ → (∀ m, n < m → m < l.length → at_ < (l.getD m default).a) → holdGo at_ l i k = i + n
 | [], _, _, n, h, _, _ => by simp at h
 | x :: t, i, k, n, h, h1, h2 => by
  rw [holdGo]
  cases n with
  | zero =>
   rw [if_pos (by simpa using h1), holdGo_spec at_ t _ _ (fun y hy => ?_)]
   ·simp
   ·obtain ⟨m, hm, rfl⟩ := List.getElem_of_mem hy
    have := h2 (m + 1) (by omega) (by simp; omega)
    simpa [List.getD_eq_getElem?_getD, hm] using this
  | succ n =>
   rw [holdGo_last at_ t _ _ n (by simpa using h) (by simpa using h1) (fun m hm hm2 => by simpa using h2 (m + 1) (by omega) (by simp; omega))]
   omega
/-- The last sample's number, out of how many lie at or before the moment. -/
theorem hold_eq {l : List Smp} {at_ k : Int} (h0 : -1 ≤ k) (hk : k < l.length) (h1 : ∀ j : Nat, j ≤ k → j < l.length → (l.getD j default).a ≤ at_) (h2 : ∀ j : Nat, k < j → j < l.length → at_ < (l.getD j default).a) : hold l at_ = k := by
 unfold hold
 by_cases h : k = -1
 ·subst h
  refine holdGo_spec at_ l 0 (-1) (fun x hx => ?_)
  obtain ⟨m, hm, rfl⟩ := List.getElem_of_mem hx
  have := h2 m (by omega) hm
  simpa [List.getD_eq_getElem?_getD, hm] using this
 ·rw [holdGo_last at_ l 0 (-1) k.toNat (by omega) (h1 _ (by omega) (by omega)) (fun m hm hm2 => h2 m (by omega) hm2)]
  omega
/-- Where the first sample at or behind a moment stands. -/
def pos (l : List Smp) (at_ : Int) : Int := hold l (at_ - 1) + 1
theorem pos_eq {l : List Smp} {at_ k : Int} (h0 : 0 ≤ k) (hk : k ≤ l.length) (h1 : ∀ j : Nat, j < k → (l.getD j default).a < at_) (h2 : ∀ j : Nat, k ≤ j → j < l.length → at_ ≤ (l.getD j default).a) : k = pos l at_ := by
 have := hold_eq (l := l) (at_ := at_ - 1) (k := k - 1) (by omega) (by omega) (fun j hj hj2 => by have := h1 j (by omega); omega) (fun j hj hj2 => by have := h2 j (by omega) hj2; omega)
 unfold pos; omega
theorem hold_spec (l : List Smp) (at_ : Int) (hg : ∀ i j, i ≤ j → j < l.length → (l.getD i default).a ≤ (l.getD j default).a) : -1 ≤ hold l at_ ∧ hold l at_ < l.length ∧ (∀ j : Nat, j ≤ hold l at_ → j < l.length → (l.getD j default).a ≤ at_) ∧ (∀ j : Nat, hold l at_ < j → j < l.length → at_ < (l.getD j default).a) := by
 have key : ∀ n : Nat, n ≤ l.length → ∃ k : Int, -1 ≤ k ∧ k < n ∧ (∀ j : Nat, j ≤ k → j < n → (l.getD j default).a ≤ at_) ∧ (∀ j : Nat, k < j → j < n → at_ < (l.getD j default).a) := by
  intro n
  induction n with
  | zero => intro _; exact ⟨-1, by omega, by omega, fun j _ hj => by omega, fun j _ hj => by omega⟩
  | succ n ih =>
   intro hn
   obtain ⟨k, h1, h2, h3, h4⟩ := ih (by omega)
   by_cases hc : (l.getD n default).a ≤ at_
   ·exact ⟨n, by omega, by omega, fun j hj hj2 => Int.le_trans (hg j n (by omega) (by omega)) hc, fun j hj hj2 => by omega⟩
   ·refine ⟨k, h1, by omega, fun j hj hj2 => h3 j hj (by omega), fun j hj hj2 => ?_⟩
    by_cases e : j = n
    ·subst e; omega
    ·exact h4 j hj (by omega)
 obtain ⟨k, h1, h2, h3, h4⟩ := key l.length (Nat.le_refl _)
 have := hold_eq h1 h2 h3 h4
 rw [this]
 exact ⟨h1, h2, h3, h4⟩
theorem pos_bd {l : List Smp} (hg : Good l) (at_ : Int) : 0 ≤ pos l at_ ∧ pos l at_ ≤ l.length := by
 obtain ⟨g1, g2, g3, g4⟩ := hold_spec l (at_ - 1) (fun i j h h' => hg.le i j h h')
 unfold pos; omega
theorem hold_pos {l : List Smp} (hg : Good l) (at_ : Int) : hold l at_ = if pos l at_ < l.length ∧ (l.getD (pos l at_).toNat default).a = at_ then pos l at_ else pos l at_ - 1 := by
 obtain ⟨h1, h2, h3, h4⟩ := hold_spec l at_ (fun i j h h' => hg.le i j h h')
 obtain ⟨g1, g2, g3, g4⟩ := hold_spec l (at_ - 1) (fun i j h h' => hg.le i j h h')
 have hp := pos_bd hg at_
 refine hold_eq (by unfold pos; split <;> omega) (by unfold pos; split <;> omega) (fun j hj hj2 => ?_) (fun j hj hj2 => ?_)
 ·split at hj
  ·rename_i h5
   have := hg.le j (pos l at_).toNat (by omega) (by omega); omega
  ·unfold pos at hj; have := g3 j (by omega) hj2; omega
 ·split at hj
  ·rename_i h5
   have := hg.up (pos l at_).toNat j (by omega) hj2; omega
  ·rename_i h5
   unfold pos at hj h5
   have := g4 j (by omega) hj2
   by_cases e : (j : Int) = hold l (at_ - 1) + 1
   ·have e2 : (hold l (at_ - 1) + 1).toNat = j := by omega
    rw [e2] at h5; omega
   ·have := hg.up (hold l (at_ - 1) + 1).toNat j (by omega) hj2
    have := g4 (hold l (at_ - 1) + 1).toNat (by omega) (by omega)
    omega
/-- A value at a moment: the moment, the fraction, the quality. -/
structure Pt where
 a : Int
 n : Int
 d : Int
 q : Int
 deriving Inhabited
def ptC (x : Pt) : List Cel := [.g (.int .i64 x.a), .g (.int .i64 x.n), .g (.int .i64 x.d), .g (.int .i64 x.q)]
theorem ptC_eq (x : Pt) : ptC x = [.g (.int .i64 x.a), .g (.int .i64 x.n), .g (.int .i64 x.d), .g (.int .i64 x.q)] := (rfl)
theorem frE_pt (l : List Pt) : frE (l.map ptC) = true := frE_map (fun _ => rfl) l
theorem datE_pt (l : List Pt) : datE (l.map ptC) = l.map ptC := datE_map (fun _ => rfl) l
theorem tofE_pt (l : List Pt) : tofE (l.map ptC) = l.map ptC := tofE_map (fun _ => rfl) l
attribute [go_sem] ptC_eq frE_pt datE_pt tofE_pt
abbrev ptV (x : Pt) : Val := .ag (ptC x)
def ptZ : Pt := ⟨0, 0, 0, 0⟩
theorem ptZ_a : ptZ.a = 0 := (rfl)
theorem ptZ_n : ptZ.n = 0 := (rfl)
theorem ptZ_d : ptZ.d = 0 := (rfl)
theorem ptZ_q : ptZ.q = 0 := (rfl)
attribute [go_sem] ptZ_a ptZ_n ptZ_d ptZ_q
def valSp (l : List Smp) (st : Bool) (at_ : Int) : Pt × Bool :=
 let k := hold l at_
 let p := l.getD k.toNat default
 let n := l.getD (k + 1).toNat default
 if k < 0 then (ptZ, false)
 else if p.q = 2 ∨ st = true ∨ p.a = at_ ∨ k + 1 = l.length ∨ n.q = 2 then (⟨at_, p.v, 1, p.q⟩, true)
 else (⟨at_, lowN (lineN p n at_) (n.a - p.a), lowD (lineN p n at_) (n.a - p.a), max p.q n.q⟩, true)
end Go.Proofs.YtdhkejcldipbmaaGreatDoor
namespace Go.Proofs.YtdhkejcldipbmaaGreatDoor
open Go Go.Ai
set_option linter.unusedSimpArgs false
set_option linter.unusedVariables false
set_option maxHeartbeats 4000000
def C_below : AC := (.seq (.reg false [gI 4 (.mv (oI 0))] (kP [0,1] [] []))
 (.seq (.seq (.reg false [gM 5 1,gI 6 (.bin .lss (.t 5) (oI 1))] (kP [0,1,6] [] []))
 (.cond (.t 6)
 (.seq (.reg false [gI 4 (.mv (oI 0))] (kP [4] [] []))
 .ret)
 .skip))
 (.seq (.reg false [gM 7 0,gM 8 1,gI 9 (.bin .rem (.t 7) (.t 8)),gM 0 9] (kP [0,1] [] []))
 (.seq (.seq (.reg false [gM 10 0,gI 11 (.bin .lss (.t 10) (oI 0))] (kP [0,1,11] [] []))
 (.cond (.t 11)
 (.reg false [gM 12 0,gM 13 1,gI 14 (.bin .add (.t 12) (.t 13)),gM 0 14] (kP [0] [] []))
 .skip))
 (.seq (.reg false [gM 15 0,gM 4 15] (kP [4] [] []))
 .ret)))))
theorem fc_below : FcT Tryz.prog 66 Tryz.f66 C_below [.t 4] := fc_mk [aN [0,1] [] [],aN [0,1,6] [] [],aN [4] [] [],aN [0,1] [] [],aN [0,1,11] [] [],aN [0] [] [],aN [4] [] []] Tryz.func66 (by kernel_rfl)
def C_next : AC := (.seq (.reg false [gI 4 (.mv (oI 0))] (kP [0,1] [0] []))
 (.seq (.reg false [gM 7 0,gI 8 (.nilchk (.t 7)),gI 9 (.fadr 1 (.t 8)),gI 10 (.load false 1 (.t 9)),gI 11 (.bin .add (.t 10) (oI 1)),gI 12 (.nilchk (.t 7)),gI 13 (.fadr 1 (.t 12)),gN (.store 1 (.t 13) (.t 11))] (kP [0,1] [0] []))
 (.seq (.seq (.reg false [gM 14 0,gI 15 (.nilchk (.t 14)),gI 16 (.fadr 0 (.t 15)),gI 17 (.load false 1 (.t 16)),gI 18 (.len (.t 17)),gI 19 (.bin .eql (.t 18) (oI 0))] (kP [0,1,19] [0] []))
 (.cond (.t 19)
 (.seq (.reg false [gM 20 0,gI 21 (.nilchk (.t 20)),gI 22 (.fadr 1 (.t 21)),gI 23 (.load false 1 (.t 22)),gI 24 (.bin .mul (.t 23) (oI 7919)),gM 25 1,gI 26 (.call (.f 66) [(.t 24),(.t 25)]),gM 4 26] (kP [4] [0] []))
 .ret)
 .skip))
 (.seq (.reg true [gM 27 0,gI 28 (.nilchk (.t 27)),gI 29 (.fadr 1 (.t 28)),gI 30 (.load false 1 (.t 29)),gI 31 (.bin .sub (.t 30) (oI 1)),gM 32 0,gI 33 (.nilchk (.t 32)),gI 34 (.fadr 0 (.t 33)),gI 35 (.load false 1 (.t 34)),gI 36 (.len (.t 35)),gI 37 (.bin .rem (.t 31) (.t 36)),gM 5 37] (kP [0,1,5] [0] []))
 (.seq (.reg true [gM 38 0,gI 39 (.nilchk (.t 38)),gI 40 (.fadr 1 (.t 39)),gI 41 (.load false 1 (.t 40)),gI 42 (.bin .sub (.t 41) (oI 1)),gM 43 0,gI 44 (.nilchk (.t 43)),gI 45 (.fadr 0 (.t 44)),gI 46 (.load false 1 (.t 45)),gI 47 (.len (.t 46)),gI 48 (.bin .quo (.t 42) (.t 47)),gM 6 48] (kP [0,1,5,6] [0] []))
 (.seq (.reg false [gM 49 0,gI 50 (.nilchk (.t 49)),gI 51 (.fadr 0 (.t 50)),gI 52 (.load false 1 (.t 51)),gM 53 5,gI 54 (.iadr 1 (.t 52) (.t 53)),gI 55 (.load false 1 (.t 54)),gI 56 (.call (.f 66) [(.t 55),(oI 1073741824)]),gM 57 6,gM 58 5,gI 59 (.bin .add (oI 7919) (.t 58)),gI 60 (.bin .mul (.t 57) (.t 59)),gI 61 (.bin .add (.t 56) (.t 60)),gM 62 1,gI 63 (.call (.f 66) [(.t 61),(.t 62)]),gM 4 63] (kP [4] [0] []))
 .ret))))))
theorem fc_next : FcT Tryz.prog 27 Tryz.f27 C_next [.t 4] := fc_mk [aN [0,1] [0] [],aN [0,1] [0] [],aN [0,1,19] [0] [],aN [4] [0] [],aN [0,1,5] [0] [],aN [0,1,5,6] [0] [],aN [4] [0] []] Tryz.func27 (by kernel_rfl)
def C_range : AC := (.seq (.reg false [gI 6 (.mv (oI 0))] (kP [0,1,2] [0] []))
 (.seq (.seq (.reg false [gM 7 2,gM 8 1,gI 9 (.bin .lss (.t 7) (.t 8))] (kP [0,1,2,9] [0] []))
 (.cond (.t 9)
 (.seq (.reg false [gM 10 1,gM 6 10] (kP [6] [0] []))
 .ret)
 .skip))
 (.seq (.reg false [gM 11 1,gM 12 0,gM 13 2,gM 14 1,gI 15 (.bin .sub (.t 13) (.t 14)),gI 16 (.bin .add (.t 15) (oI 1)),gI 17 (.callx (.f 27) [(.t 12),(.t 16)]),gI 18 (.bin .add (.t 11) (.t 17)),gM 6 18] (kP [6] [0] []))
 .ret)))
theorem fc_range : FcT Tryz.prog 25 Tryz.f25 C_range [.t 6] := fc_mk [aN [0,1,2] [0] [],aN [0,1,2,9] [0] [],aN [6] [0] [],aN [6] [0] []] Tryz.func25 (by kernel_rfl)
def C_flip : AC := (.seq (.reg false [gI 4 (.mv (.v (.bool false)))] (kP [0,1] [0] []))
 (.seq (.reg false [gM 5 0,gM 6 1,gI 7 (.callx (.f 27) [(.t 5),(.t 6)]),gI 8 (.bin .eql (.t 7) (oI 0)),gM 4 8] (kP [4] [0] []))
 .ret))
theorem fc_flip : FcT Tryz.prog 23 Tryz.f23 C_flip [.t 4] := fc_mk [aN [0,1] [0] [],aN [4] [0] []] Tryz.func23 (by kernel_rfl)
def C_pick : AC := (.seq (.reg false [gI 4 (.mv (oI 0))] (kP [0,1] [0] []))
 (.seq (.reg false [gM 5 1,gM 6 0,gM 7 1,gI 8 (.len (.t 7)),gI 9 (.callx (.f 27) [(.t 6),(.t 8)]),gI 10 (.iadr 1 (.t 5) (.t 9)),gI 11 (.load false 1 (.t 10)),gM 4 11] (kP [4] [0] []))
 .ret))
theorem fc_pick : FcT Tryz.prog 24 Tryz.f24 C_pick [.t 4] := fc_mk [aN [0,1] [0] [],aN [4] [0] []] Tryz.func24 (by kernel_rfl)
def C_odd : AC := (.seq (.reg false [gI 6 (.mv (oI 0))] (kP [0,1,2] [0] []))
 (.seq (.seq (.reg false [gM 7 0,gI 8 (.callx (.f 23) [(.t 7),(oI 12)])] (kP [0,1,2,8] [0] []))
 (.cond (.t 8)
 (.seq (.reg false [gM 9 0,gM 10 1,gI 11 (.bin .sub (.t 10) (oI 1)),gM 12 2,gI 13 (.bin .add (.t 12) (oI 1)),gM 14 1,gM 15 2,gI 16 (.bslice 1 6 [(.t 11),(.t 13),(.t 14),(.t 15),(oI (-1099511627776)),(oI 1099511627776)]),gI 17 (.callx (.f 24) [(.t 9),(.t 16)]),gM 6 17] (kP [6] [0] []))
 .ret)
 .skip))
 (.seq (.reg false [gM 18 0,gM 19 1,gM 20 2,gI 21 (.callx (.f 25) [(.t 18),(.t 19),(.t 20)]),gM 6 21] (kP [6] [0] []))
 .ret)))
theorem fc_odd : FcT Tryz.prog 29 Tryz.f29 C_odd [.t 6] := fc_mk [aN [0,1,2] [0] [],aN [0,1,2,8] [0] [],aN [6] [0] [],aN [6] [0] []] Tryz.func29 (by kernel_rfl)
theorem below_fc (x n : Int) (h1 : 1 ≤ n) (hn : n ≤ 9223372036854775807) (hx : I64 x) : FC Tryz.prog 66 none [iv x, iv n] (fun _ r => r = iv (x % n)) := by
 refine fc_below (by simp +arith) ?_
 obtain ⟨hx1, hx2⟩ := hx
 unfold C_below
 simp (maxSteps := 1000000) (disch := omega) only [go_sem]
 have e1 : x.tmod n = if 0 ≤ x then x % n else if n ∣ x then 0 else x % n - n := by
  rw [Int.tmod_eq_emod]
  by_cases h3 : 0 ≤ x
  ·simp [h3]
  ·by_cases h4 : n ∣ x
   ·simp [h4, Int.emod_eq_zero_of_dvd h4]
   ·simp only [h3, h4, or_self, if_false]; omega
 have e2 := Int.emod_nonneg x (show n ≠ 0 by omega)
 have e3 := Int.emod_lt_of_pos x (show 0 < n by omega)
 have e4 : n ∣ x → x % n = 0 := fun h => Int.emod_eq_zero_of_dvd h
 refine ⟨fun h => ?_, fun h => ?_⟩
 ·rw [e1] at h ⊢
  split at h
  ·omega
  ·rename_i h3
   rw [if_neg h3]
   split at h
   ·omega
   ·rename_i h4
    rw [if_neg h4, wrap_i64 _ (by omega) (by omega)]
    show iv _ = iv _
    congr 4
    omega
 ·rw [e1] at h ⊢
  split at h
  ·rename_i h3; rw [if_pos h3]
  ·rename_i h3
   rw [if_neg h3]
   split at h
   ·rename_i h4; rw [if_pos h4, e4 h4]
   ·omega
theorem next_fc (n : Int) (h1 : 1 ≤ n) (hn : n ≤ 9223372036854775807) : Gen Tryz.prog 27 [iv n] 1 (fun r => ∃ x, 0 ≤ x ∧ x < n ∧ r = iv x) := by
 intro L p hL hl h0 hp
 refine fc_next (by simp +arith) ?_
 have e0 : ∀ x, 0 ≤ x % n ∧ x % n < n := fun x => ⟨Int.emod_nonneg x (by omega), Int.emod_lt_of_pos x (by omega)⟩
 unfold C_next strm
 simp (maxSteps := 1000000) (disch := omega) only [go_sem]
 refine ⟨fun h => ?_, fun h => ?_⟩
 ·refine CALL_det (below_fc _ n h1 hn (wrap_in _)) (.inl rfl) ?_
  simp (maxSteps := 1000000) (disch := omega) only [go_sem]
  exact ⟨⟨p + 1, by omega, by omega, rfl⟩, _, (e0 _).1, (e0 _).2, rfl⟩
 ·have h3 : 0 < (L.length : Int) := by omega
  have h4 : (p + 1 - 1).tmod (L.length : Int) = (p + 1 - 1) % (L.length : Int) := Int.tmod_eq_emod_of_nonneg (by omega)
  have h5 := Int.emod_nonneg (p + 1 - 1) (show (L.length : Int) ≠ 0 by omega)
  have h6 := Int.emod_lt_of_pos (p + 1 - 1) h3
  rw [h4]
  refine ⟨h, h, ⟨by omega, by omega⟩, ?_⟩
  simp (maxSteps := 1000000) (disch := omega) only [go_sem]
  refine CALL_det (below_fc _ 1073741824 (by omega) (by omega) (hL _ (getD_mem _ _ (by omega)))) (.inl rfl) ?_
  simp (maxSteps := 1000000) (disch := omega) only [go_sem]
  refine CALL_det (below_fc _ n h1 hn (wrap_in _)) (.inl rfl) ?_
  simp (maxSteps := 1000000) (disch := omega) only [go_sem]
  exact ⟨⟨p + 1, by omega, by omega, rfl⟩, _, (e0 _).1, (e0 _).2, rfl⟩
theorem range_fc (lo hi : Int) (h1 : lo ≤ hi) (h2 : -4611686018427387904 ≤ lo) (h3 : hi ≤ 4611686018427387902) : Gen Tryz.prog 25 [iv lo, iv hi] 1 (fun r => ∃ x, lo ≤ x ∧ x ≤ hi ∧ r = iv x) := by
 intro L p hL hl h0 hp
 refine fc_range (by simp +arith) ?_
 unfold C_range strm
 simp (maxSteps := 1000000) (disch := omega) only [go_sem]
 refine callx_gen (next_fc (hi - lo + 1) (by omega) (by omega)) hL hl h0 hp ⟨_, 0, by omega, by omega, rfl⟩ ?_
 rintro p' r h4 h5 ⟨x, h6, h7, rfl⟩
 refine ⟨rfl, ?_⟩
 unfold strm
 simp (maxSteps := 1000000) (disch := omega) only [go_sem]
 exact ⟨⟨p', by omega, by omega, rfl⟩, _, by omega, by omega, rfl⟩
theorem flip_fc (n : Int) (h1 : 1 ≤ n) (hn : n ≤ 9223372036854775807) : Gen Tryz.prog 23 [iv n] 1 (fun r => ∃ b, r = bv b) := by
 intro L p hL hl h0 hp
 refine fc_flip (by simp +arith) ?_
 unfold C_flip strm
 simp (maxSteps := 1000000) (disch := omega) only [go_sem]
 refine callx_gen (next_fc n h1 hn) hL hl h0 hp ⟨_, 0, by omega, by omega, rfl⟩ ?_
 rintro p' r h4 h5 ⟨x, h6, h7, rfl⟩
 refine ⟨rfl, ?_⟩
 unfold strm
 simp (maxSteps := 1000000) (disch := omega) only [go_sem]
 exact ⟨⟨p', by omega, by omega, rfl⟩, _, rfl⟩
theorem pick_fc (fr : Bool) (l : List Int) (h1 : 0 < l.length) (h2 : l.length ≤ 9223372036854775807) : Gen Tryz.prog 24 [ints fr l] 1 (fun r => ∃ x ∈ l, r = iv x) := by
 intro L p hL hl h0 hp
 refine fc_pick (by simp +arith) ?_
 unfold C_pick strm
 simp (maxSteps := 1000000) (disch := omega) only [go_sem]
 refine callx_gen (next_fc l.length (by omega) (by omega)) hL hl h0 hp ⟨_, 0, by omega, by omega, rfl⟩ ?_
 rintro p' r h4 h5 ⟨x, h6, h7, rfl⟩
 refine ⟨rfl, ?_⟩
 unfold strm
 simp (maxSteps := 1000000) (disch := omega) only [go_sem]
 exact ⟨⟨p', by omega, by omega, rfl⟩, _, getD_mem _ _ (by omega), rfl⟩
theorem odd_fc (lo hi : Int) (h1 : lo ≤ hi) (h2 : -1152921504606846976 ≤ lo) (h3 : hi ≤ 1152921504606846976) : Gen Tryz.prog 29 [iv lo, iv hi] 2 (fun r => ∃ x, I64 x ∧ r = iv x) := by
 intro L p hL hl h0 hp
 refine fc_odd (by simp +arith) ?_
 unfold C_odd strm
 simp (maxSteps := 1000000) (disch := omega) only [go_sem]
 refine callx_gen (flip_fc 12 (by omega) (by omega)) hL hl h0 (by omega) ⟨_, true, rfl⟩ ?_
 rintro p' r h4 h5 ⟨b, rfl⟩
 refine ⟨rfl, ?_⟩
 unfold strm
 simp (maxSteps := 1000000) (disch := omega) only [go_sem]
 refine ⟨fun _ => ?_, fun _ => ?_⟩
 ·refine callx_gen (pick_fc false [lo - 1, hi + 1, lo, hi, -1099511627776, 1099511627776] (by simp) (by simp)) hL hl (by omega) (by omega) ⟨_, lo, by simp, rfl⟩ ?_
  rintro p'' r h6 h7 ⟨x, hx, rfl⟩
  refine ⟨rfl, ?_⟩
  unfold strm
  simp (maxSteps := 1000000) (disch := omega) only [go_sem]
  refine ⟨⟨p'', by omega, by omega, rfl⟩, _, ?_, rfl⟩
  simp only [List.mem_cons, List.not_mem_nil, or_false] at hx
  unfold I64; omega
 ·refine callx_gen (range_fc lo hi h1 (by omega) (by omega)) hL hl (by omega) (by omega) ⟨_, lo, by omega, by omega, rfl⟩ ?_
  rintro p'' r h6 h7 ⟨x, hx, hx', rfl⟩
  refine ⟨rfl, ?_⟩
  unfold strm
  simp (maxSteps := 1000000) (disch := omega) only [go_sem]
  exact ⟨⟨p'', by omega, by omega, rfl⟩, _, by unfold I64; omega, rfl⟩
end Go.Proofs.YtdhkejcldipbmaaGreatDoor
namespace Go.Proofs.YtdhkejcldipbmaaGreatDoor
open Go Go.Ai
set_option linter.unusedSimpArgs false
set_option linter.unusedVariables false
set_option maxHeartbeats 4000000
structure CurveX where
 i : Int
 a : Int
 v : Int
 p : Int
 l : List Smp
end Go.Proofs.YtdhkejcldipbmaaGreatDoor

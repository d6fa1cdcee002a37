
/-
 What is common to the functions that draw numbers from a stream: how their contracts read, and how a call of one is met.
 What is wrong with samples, series, moments, windows: the program's answer and the reference's are one.
 The value of a series at a moment: the program's way (binary search) and the reference's (a walk over all samples) come to one answer.
 The streams of numbers: Below, Next, Range, Flip, Pick, Odd: what they draw and hand back.
 The curves that streams draw: AMoment, ASpan, Curve.
-/
import Derived.Test.YtiiblflmfadmbaaAiE
import Derived.Test.YtiiblflmfadmbaaProg
namespace Go.Ai
open Go
set_option linter.unusedSimpArgs false
set_option linter.unusedVariables false
set_option maxHeartbeats 4000000
def intC (n : Int) : List Cel := [.g (.int .i64 n)]
abbrev ints (fr : Bool) (l : List Int) : Val := .one (.sl fr 1 (l.map intC))
/-- In the range of Go's int. -/
def I64 (n : Int) : Prop := -9223372036854775808 ≤ n ∧ n ≤ 9223372036854775807
/-- The box of a stream. -/
def strm (L : List Int) (at_ : Int) : List Cel := [.sl false 1 (L.map intC), .g (.int .i64 at_)]
theorem strm_eq (L : List Int) (at_ : Int) : strm L at_ = [.sl false 1 (L.map intC), .g (.int .i64 at_)] := (rfl)
/-- f draws at most n numbers and hands back an R. -/
def Gen (P : Program) (f : FuncId) (args : List Val) (n : Nat) (R : Val → Prop) : Prop :=
 ∀ (L : List Int) (p : Int), (∀ x ∈ L, I64 x) → L.length ≤ 9223372036854775807 → 0 ≤ p → p + n ≤ 4611686018427387904 →
  FC P f (some (strm L p)) args fun cs r => (∃ p', p ≤ p' ∧ p' ≤ p + n ∧ cs = strm L p') ∧ R r
theorem wrap_in (n : Int) : I64 (IntKind.i64.wrap n) := by
 unfold I64
 rw [IntKind.wrap_i64]
 omega
theorem and_then {p q : Prop} (hp : p) (hq : p → q) : p ∧ q := ⟨hp, hq hp⟩
theorem getD_map_in {α β : Type} [Inhabited α] (f : α → β) (l : List α) (i : Nat) (d : β) (h : i < l.length) : (l.map f).getD i d = f (l.getD i default) := by
 simp [List.getD_eq_getElem?_getD, h]
theorem getD_mem {α : Type} [Inhabited α] (l : List α) (i : Nat) (h : i < l.length) : l.getD i default ∈ l := by
 simp [List.getD_eq_getElem?_getD, h]
theorem intC_eq (n : Int) : intC n = [.g (.int .i64 n)] := (rfl)
attribute [go_sem] getD_map_in List.length_map intC_eq
variable {P : Program} {Q : AX → AS → Prop} {s : AS} {k : List KI} {kp : Option Keep} {l : List GI}
theorem callx_gen {f : FuncId} {args : List Val} {n : Nat} {R : Val → Prop} {L : List Int} {p : Int} {key : Nat} {d : Option Nat} (h : Gen P f args n R) (hL : ∀ x ∈ L, I64 x) (hl : L.length ≤ 9223372036854775807) (h0 : 0 ≤ p) (hn : p + n ≤ 4611686018427387904)
  (hne : ∃ r, R r) (hk : ∀ p' r, p ≤ p' → p' ≤ p + n → R r → dataRV r = true ∧ rg P l kp k Q ({ s with bx := upd s.bx key (some (strm L p')) }.put d r)) :
  CALLX P f key (strm L p) args d l kp k Q s := by
 obtain ⟨r0, hr0⟩ := hne
 refine ⟨_, h L p hL hl h0 hn, ⟨_, r0, ⟨p, Int.le_refl _, by omega, rfl⟩, hr0⟩, ?_⟩
 rintro cs r ⟨⟨p', h1, h2, rfl⟩, hr⟩
 obtain ⟨h3, h4⟩ := hk p' r h1 h2 hr
 exact ⟨h3, rfl, h4⟩
theorem getE_map_in {α β : Type} [Inhabited α] (f : α → β) (l : List α) (i : Nat) (h : i < l.length) : (l.map f)[i]? = some (f (l.getD i default)) := by
 simp [List.getD_eq_getElem?_getD, h]
theorem map_snoc {α β : Type} (f : α → β) (l : List α) (x : α) : l.map f ++ [f x] = (l ++ [x]).map f := by simp
attribute [go_sem] getE_map_in Bool.not_eq_true' Bool.not_eq_false'
theorem iv_congr {a b : Int} (h : a = b) : Val.one (.g (.int .i64 a)) = iv b := by rw [h]
theorem bv_congr {a b : Bool} (h : a = true ↔ b = true) : Val.one (.g (.bool a)) = bv b := by
 have : a = b := by cases a <;> cases b <;> simp_all
 rw [this]
theorem bv_dec {p q : Prop} [Decidable p] [Decidable q] (h : p ↔ q) : Val.one (.g (.bool (decide p))) = bv (decide q) := by simp [h]
theorem bv_ndec {p q : Prop} [Decidable p] [Decidable q] (h : ¬p ↔ q) : Val.one (.g (.bool (!decide p))) = bv (decide q) := by simp [← h]
theorem bv_f {q : Prop} [Decidable q] (h : ¬q) : Val.one (.g (.bool false)) = bv (decide q) := by simp [h]
theorem bv_t {q : Prop} [Decidable q] (h : q) : Val.one (.g (.bool true)) = bv (decide q) := by simp [h]
/-- A sample: its moment, value and quality. -/
structure Smp where
 a : Int
 v : Int
 q : Int
 deriving Inhabited
def smpC (x : Smp) : List Cel := [.g (.int .i64 x.a), .g (.int .i64 x.v), .g (.int .i64 x.q)]
theorem smpC_eq (x : Smp) : smpC x = [.g (.int .i64 x.a), .g (.int .i64 x.v), .g (.int .i64 x.q)] := (rfl)
attribute [go_sem] smpC_eq
def Smp.in64 (x : Smp) : Prop := I64 x.a ∧ I64 x.v ∧ I64 x.q
abbrev smps (fr : Bool) (l : List Smp) : Val := .one (.sl fr 3 (l.map smpC))
theorem frE_map {α : Type} {f : α → List Cel} (h : ∀ x, (f x).all freshC = true) (l : List α) : frE (l.map f) = true := by
 simp only [frE, List.all_eq_true, List.mem_map]
 rintro e ⟨x, _, rfl⟩
 exact List.all_eq_true.1 (h x)
theorem datE_map {α : Type} {f : α → List Cel} (h : ∀ x, (f x).map Cel.dat = f x) (l : List α) : datE (l.map f) = l.map f := by simp [datE, Function.comp_def, h]
theorem tofE_map {α : Type} {f : α → List Cel} (h : ∀ x, (f x).map Cel.tof = f x) (l : List α) : tofE (l.map f) = l.map f := by simp [tofE, Function.comp_def, h]
theorem frE_set {es : List (List Cel)} {e : List Cel} {i : Nat} (h : frE es = true) (he : e.all freshC = true) : frE (es.set i e) = true := by
 simp only [frE, List.all_eq_true] at *
 intro x hx
 rcases List.mem_or_eq_of_mem_set hx with h1 | rfl
 ·exact h x h1
 ·exact he
theorem frE_int (l : List Int) : frE (l.map intC) = true := frE_map (fun _ => rfl) l
theorem datE_int (l : List Int) : datE (l.map intC) = l.map intC := datE_map (fun _ => rfl) l
theorem tofE_int (l : List Int) : tofE (l.map intC) = l.map intC := tofE_map (fun _ => rfl) l
theorem frE_smp (l : List Smp) : frE (l.map smpC) = true := frE_map (fun _ => rfl) l
theorem datE_smp (l : List Smp) : datE (l.map smpC) = l.map smpC := datE_map (fun _ => rfl) l
theorem tofE_smp (l : List Smp) : tofE (l.map smpC) = l.map smpC := tofE_map (fun _ => rfl) l
attribute [go_sem] frE_int datE_int tofE_int frE_smp datE_smp tofE_smp
end Go.Ai
namespace Go.Proofs.Ytiiblflmfadmbaa
open Go Go.Ai
set_option linter.unusedSimpArgs false
set_option linter.unusedVariables false
set_option maxHeartbeats 4000000
def C_out : AC := (.seq (.reg false [gI 6 (.mv (.v (.bool false)))] (kP [0,1,2] [] []))
 (.seq (.reg false [gM 7 0,gM 8 1,gI 9 (.bin .lss (.t 7) (.t 8)),gM 10 9,gG 11 10 false (.mv (.t 0)),gG 12 10 false (.mv (.t 2)),gG 13 10 false (.bin .gtr (.t 11) (.t 12)),gI 14 (.pick (.t 10) (.v (.bool true)) (.t 13)),gM 6 14] (kP [6] [] []))
 .ret))
theorem fc_out : FcT Try.prog 37 Try.f37 C_out [.t 6] := fc_mk [aN [0,1,2] [] [],aN [6] [] []] Try.func37 (by kernel_rfl)
def C_moment : AC := (.seq (.reg false [gI 2 (.mv (.v (.bool false)))] (kP [0] [] []))
 (.seq (.reg false [gM 3 0,gI 4 (.call (.f 37) [(.t 3),(oI 0),(oI 345686399999)]),gI 5 (.un .not (.t 4)),gM 2 5] (kP [2] [] []))
 .ret))
theorem fc_moment : FcT Try.prog 29 Try.f29 C_moment [.t 2] := fc_mk [aN [0] [] [],aN [2] [] []] Try.func29 (by kernel_rfl)
def C_window : AC := (.seq (.reg false [gI 1 (.box (.t 0)),gI 2 (.mv (.v (.bool false)))] (kP [1] [1] []))
 (.seq (.reg false [gI 3 (.fadr 0 (.t 1)),gI 4 (.load false 1 (.t 3)),gI 5 (.fadr 1 (.t 1)),gI 6 (.load false 1 (.t 5)),gI 7 (.call (.f 37) [(.t 4),(oI 0),(.t 6)]),gI 8 (.un .not (.t 7)),gM 9 8,gG 10 9 true (.fadr 1 (.t 1)),gG 11 9 true (.load false 1 (.t 10)),gG 12 9 true (.bin .leq (.t 11) (oI 345686400000)),gI 13 (.pick (.t 9) (.t 12) (.v (.bool false))),gM 2 13] (kP [2] [] []))
 .ret))
theorem fc_window : FcT Try.prog 27 Try.f27 C_window [.t 2] := fc_mk [aN [1] [1] [],aN [2] [] []] Try.func27 (by kernel_rfl)
def C_checkSample : AC := (.seq (.reg false [gI 1 (.box (.t 0)),gI 2 (.mv (oI 0))] (kP [1] [1] []))
 (.seq (.block 0 (.seq (.reg false [gI 4 (.fadr 0 (.t 1)),gI 5 (.load false 1 (.t 4)),gI 6 (.call (.f 29) [(.t 5)]),gI 7 (.un .not (.t 6)),gM 3 7] (kP [1,3] [1] []))
 (.cond (.t 3)
 (.seq (.reg false [gI 2 (.mv (oI 1))] (kP [2] [] []))
 .ret)
 (.seq (.reg false [gI 9 (.fadr 2 (.t 1)),gI 10 (.load false 1 (.t 9)),gI 11 (.call (.f 37) [(.t 10),(oI 0),(oI 2)]),gM 8 11] (kP [1,8] [1] []))
 (.cond (.t 8)
 (.seq (.reg false [gI 2 (.mv (oI 4))] (kP [2] [] []))
 .ret)
 (.seq (.reg false [gI 13 (.fadr 1 (.t 1)),gI 14 (.load false 1 (.t 13)),gI 15 (.call (.f 37) [(.t 14),(oI (-1000000)),(oI 1000000)]),gM 12 15] (kP [1,12] [1] []))
 (.cond (.t 12)
 (.seq (.reg false [gI 2 (.mv (oI 1))] (kP [2] [] []))
 .ret)
 (.seq (.reg false [gI 17 (.fadr 2 (.t 1)),gI 18 (.load false 1 (.t 17)),gI 19 (.bin .eql (.t 18) (oI 2)),gM 20 19,gG 21 20 true (.fadr 1 (.t 1)),gG 22 20 true (.load false 1 (.t 21)),gG 23 20 true (.bin .neq (.t 22) (oI 0)),gI 24 (.pick (.t 20) (.t 23) (.v (.bool false))),gM 16 24] (kP [16] [] []))
 (.cond (.t 16)
 (.seq (.reg false [gI 2 (.mv (oI 3))] (kP [2] [] []))
 .ret)
 .skip)))))))))
 (.seq (.reg false [gI 2 (.mv (oI 0))] (kP [2] [] []))
 .ret)))
theorem fc_checkSample : FcT Try.prog 38 Try.f38 C_checkSample [.t 2] := fc_mk [aN [1] [1] [],aN [1,3] [1] [],aN [2] [] [],aN [1,8] [1] [],aN [2] [] [],aN [1,12] [1] [],aN [2] [] [],aN [16] [] [],aN [2] [] [],aN [2] [] []] Try.func38 (by kernel_rfl)
def C_checkSeries : AC := (.seq (.reg false [gI 2 (.mv (oI 0))] (kP [0] [] []))
 (.seq (.seq (.reg false [gM 6 0,gI 7 (.len (.t 6)),gI 8 (.bin .gtr (.t 7) (oI 5000))] (kP [0,8] [] []))
 (.cond (.t 8)
 (.seq (.reg false [gI 2 (.mv (oI 2))] (kP [2] [] []))
 .ret)
 .skip))
 (.seq (.seq (.reg false [gM 9 0,gI 10 (.len (.t 9)),gI 11 (.mv (oI 0))] (kP [0,9,10,11] [] []))
 (.block 0 (.loop (.seq (.reg false [gI 12 (.bin .lss (.t 11) (.t 10))] (kP [0,9,10,11,12] [] []))
 (.seq (.cond (.t 12)
 .skip
 (.exit 0))
 (.seq (.block 1 (.seq (.reg false [gM 13 11,gI 14 (.iadr 3 (.t 9) (.t 11)),gI 15 (.load true 3 (.t 14)),gI 4 (.alloc [(.int .i64 (0)),(.int .i64 (0)),(.int .i64 (0))]),gM 3 13,gN (.store 3 (.t 4) (.t 15))] (kP [0,3,4,9,10,11] [4] []))
 (.seq (.seq (.reg false [gI 16 (.load true 3 (.t 4)),gI 17 (.call (.f 38) [(.t 16)]),gM 5 17] (kP [0,3,4,5,9,10,11] [4] []))
 (.seq (.reg false [gM 18 5,gI 19 (.bin .neq (.t 18) (oI 0))] (kP [0,3,4,5,9,10,11,19] [4] []))
 (.cond (.t 19)
 (.seq (.reg false [gM 20 5,gM 2 20] (kP [2] [] []))
 .ret)
 .skip)))
 (.seq (.reg true [gM 21 3,gI 22 (.bin .gtr (.t 21) (oI 0)),gM 23 22,gG 24 23 true (.fadr 0 (.t 4)),gG 25 23 true (.load false 1 (.t 24)),gG 26 23 true (.mv (.t 0)),gG 27 23 true (.mv (.t 3)),gG 28 23 true (.bin .sub (.t 27) (oI 1)),gG 29 23 true (.iadr 3 (.t 26) (.t 28)),gG 30 23 true (.fadr 0 (.t 29)),gG 31 23 true (.load false 1 (.t 30)),gG 32 23 true (.bin .leq (.t 25) (.t 31)),gI 33 (.pick (.t 23) (.t 32) (.v (.bool false)))] (kP [0,9,10,11,33] [] []))
 (.cond (.t 33)
 (.seq (.reg false [gI 2 (.mv (oI 7))] (kP [2] [] []))
 .ret)
 .skip)))))
 (.reg false [gI 34 (.bin .add (.t 11) (oI 1)),gM 11 34] (kP [0,9,10,11] [] []))))))))
 (.seq (.reg false [gI 2 (.mv (oI 0))] (kP [2] [] []))
 .ret))))
theorem fc_checkSeries : FcT Try.prog 18 Try.f18 C_checkSeries [.t 2] := fc_mk [aN [0] [] [],aN [0,8] [] [],aN [2] [] [],aN [0,9,10,11] [] [],aN [0,9,10,11,12] [] [],aN [0,3,4,9,10,11] [4] [],aN [0,3,4,5,9,10,11] [4] [],aN [0,3,4,5,9,10,11,19] [4] [],aN [2] [] [],aN [0,9,10,11,33] [] [],aN [2] [] [],aN [0,9,10,11] [] [],aN [2] [] []] Try.func18 (by kernel_rfl)
def C_in_ : AC := (.seq (.reg false [gI 6 (.mv (.v (.bool false)))] (kP [0,1,2] [] []))
 (.seq (.reg false [gM 7 1,gM 8 0,gI 9 (.bin .leq (.t 7) (.t 8)),gM 10 9,gG 11 10 true (.mv (.t 0)),gG 12 10 true (.mv (.t 2)),gG 13 10 true (.bin .leq (.t 11) (.t 12)),gI 14 (.pick (.t 10) (.t 13) (.v (.bool false))),gM 6 14] (kP [6] [] []))
 .ret))
theorem fc_in_ : FcT Try.prog 57 Try.f57 C_in_ [.t 6] := fc_mk [aN [0,1,2] [] [],aN [6] [] []] Try.func57 (by kernel_rfl)
def C_rmoment2 : AC := (.seq (.reg false [gI 2 (.mv (.v (.bool false)))] (kP [0] [] []))
 (.seq (.reg false [gM 3 0,gI 4 (.call (.f 57) [(.t 3),(oI 0),(oI 345686399999)]),gM 2 4] (kP [2] [] []))
 .ret))
theorem fc_rmoment2 : FcT Try.prog 56 Try.f56 C_rmoment2 [.t 2] := fc_mk [aN [0] [] [],aN [2] [] []] Try.func56 (by kernel_rfl)
def C_sampleFault : AC := (.seq (.reg false [gI 1 (.box (.t 0)),gI 2 (.mv (oI 0))] (kP [1] [1] []))
 (.seq (.block 0 (.seq (.reg false [gI 4 (.fadr 0 (.t 1)),gI 5 (.load false 1 (.t 4)),gI 6 (.call (.f 56) [(.t 5)]),gI 7 (.un .not (.t 6)),gM 3 7] (kP [1,3] [1] []))
 (.cond (.t 3)
 (.seq (.reg false [gI 2 (.mv (oI 1))] (kP [2] [] []))
 .ret)
 (.seq (.reg false [gI 9 (.fadr 2 (.t 1)),gI 10 (.load false 1 (.t 9)),gI 11 (.call (.f 57) [(.t 10),(oI 0),(oI 2)]),gI 12 (.un .not (.t 11)),gM 8 12] (kP [1,8] [1] []))
 (.cond (.t 8)
 (.seq (.reg false [gI 2 (.mv (oI 4))] (kP [2] [] []))
 .ret)
 (.seq (.reg false [gI 14 (.fadr 1 (.t 1)),gI 15 (.load false 1 (.t 14)),gI 16 (.call (.f 57) [(.t 15),(oI (-1000000)),(oI 1000000)]),gI 17 (.un .not (.t 16)),gM 13 17] (kP [1,13] [1] []))
 (.cond (.t 13)
 (.seq (.reg false [gI 2 (.mv (oI 1))] (kP [2] [] []))
 .ret)
 (.seq (.reg false [gI 19 (.fadr 2 (.t 1)),gI 20 (.load false 1 (.t 19)),gI 21 (.bin .eql (.t 20) (oI 2)),gM 22 21,gG 23 22 true (.fadr 1 (.t 1)),gG 24 22 true (.load false 1 (.t 23)),gG 25 22 true (.bin .neq (.t 24) (oI 0)),gI 26 (.pick (.t 22) (.t 25) (.v (.bool false))),gM 18 26] (kP [18] [] []))
 (.cond (.t 18)
 (.seq (.reg false [gI 2 (.mv (oI 3))] (kP [2] [] []))
 .ret)
 .skip)))))))))
 (.seq (.reg false [gI 2 (.mv (oI 0))] (kP [2] [] []))
 .ret)))
theorem fc_sampleFault : FcT Try.prog 35 Try.f35 C_sampleFault [.t 2] := fc_mk [aN [1] [1] [],aN [1,3] [1] [],aN [2] [] [],aN [1,8] [1] [],aN [2] [] [],aN [1,13] [1] [],aN [2] [] [],aN [18] [] [],aN [2] [] [],aN [2] [] []] Try.func35 (by kernel_rfl)
def C_seriesFault : AC := (.seq (.reg false [gI 2 (.mv (oI 0))] (kP [0] [] []))
 (.seq (.seq (.reg false [gM 6 0,gI 7 (.len (.t 6)),gI 8 (.bin .gtr (.t 7) (oI 5000))] (kP [0,8] [] []))
 (.cond (.t 8)
 (.seq (.reg false [gI 2 (.mv (oI 2))] (kP [2] [] []))
 .ret)
 .skip))
 (.seq (.seq (.reg false [gM 9 0,gI 10 (.len (.t 9)),gI 11 (.mv (oI 0))] (kP [0,9,10,11] [] []))
 (.block 0 (.loop (.seq (.reg false [gI 12 (.bin .lss (.t 11) (.t 10))] (kP [0,9,10,11,12] [] []))
 (.seq (.cond (.t 12)
 .skip
 (.exit 0))
 (.seq (.block 1 (.seq (.reg false [gM 13 11,gI 14 (.iadr 3 (.t 9) (.t 11)),gI 15 (.load true 3 (.t 14)),gI 4 (.alloc [(.int .i64 (0)),(.int .i64 (0)),(.int .i64 (0))]),gM 3 13,gN (.store 3 (.t 4) (.t 15))] (kP [0,3,4,9,10,11] [4] []))
 (.seq (.seq (.reg false [gI 16 (.load true 3 (.t 4)),gI 17 (.call (.f 35) [(.t 16)]),gM 5 17] (kP [0,3,4,5,9,10,11] [4] []))
 (.seq (.reg false [gM 18 5,gI 19 (.bin .neq (.t 18) (oI 0))] (kP [0,3,4,5,9,10,11,19] [4] []))
 (.cond (.t 19)
 (.seq (.reg false [gM 20 5,gM 2 20] (kP [2] [] []))
 .ret)
 .skip)))
 (.seq (.reg true [gM 21 3,gI 22 (.bin .gtr (.t 21) (oI 0)),gM 23 22,gG 24 23 true (.fadr 0 (.t 4)),gG 25 23 true (.load false 1 (.t 24)),gG 26 23 true (.mv (.t 0)),gG 27 23 true (.mv (.t 3)),gG 28 23 true (.bin .sub (.t 27) (oI 1)),gG 29 23 true (.iadr 3 (.t 26) (.t 28)),gG 30 23 true (.fadr 0 (.t 29)),gG 31 23 true (.load false 1 (.t 30)),gG 32 23 true (.bin .leq (.t 25) (.t 31)),gI 33 (.pick (.t 23) (.t 32) (.v (.bool false)))] (kP [0,9,10,11,33] [] []))
 (.cond (.t 33)
 (.seq (.reg false [gI 2 (.mv (oI 7))] (kP [2] [] []))
 .ret)
 .skip)))))
 (.reg false [gI 34 (.bin .add (.t 11) (oI 1)),gM 11 34] (kP [0,9,10,11] [] []))))))))
 (.seq (.reg false [gI 2 (.mv (oI 0))] (kP [2] [] []))
 .ret))))
theorem fc_seriesFault : FcT Try.prog 14 Try.f14 C_seriesFault [.t 2] := fc_mk [aN [0] [] [],aN [0,8] [] [],aN [2] [] [],aN [0,9,10,11] [] [],aN [0,9,10,11,12] [] [],aN [0,3,4,9,10,11] [4] [],aN [0,3,4,5,9,10,11] [4] [],aN [0,3,4,5,9,10,11,19] [4] [],aN [2] [] [],aN [0,9,10,11,33] [] [],aN [2] [] [],aN [0,9,10,11] [] [],aN [2] [] []] Try.func14 (by kernel_rfl)
abbrev smpV (x : Smp) : Val := .ag (smpC x)
abbrev winV (f t : Int) : Val := .ag [.g (.int .i64 f), .g (.int .i64 t)]
def MAXT : Int := 345686399999
def smpFault (x : Smp) : Int := if x.a < 0 ∨ x.a > 345686399999 then 1 else if x.q < 0 ∨ x.q > 2 then 4 else if x.v < -1000000 ∨ x.v > 1000000 then 1 else if x.q = 2 ∧ x.v ≠ 0 then 3 else 0
def serGo : Option Smp → List Smp → Int
 | _, [] => 0
 | p, x :: t => if smpFault x ≠ 0 then smpFault x else if (match p with | none => false | some y => decide (x.a ≤ y.a)) then 7 else serGo (some x) t
def serFault (l : List Smp) : Int := if 5000 < l.length then 2 else serGo none l
def winFault (f t : Int) : Int := if f < 0 ∨ f > t ∨ t > 345686400000 then 1 else 0
theorem out_fc (n lo hi : Int) : FC Try.prog 37 none [iv n, iv lo, iv hi] (fun _ r => r = bv (decide (n < lo ∨ n > hi))) := by
 refine fc_out (by simp +arith) ?_
 unfold C_out
 simp (maxSteps := 1000000) (disch := omega) only [go_sem]
 by_cases h : n < lo <;> simp [h]
theorem moment_fc (n : Int) : FC Try.prog 29 none [iv n] (fun _ r => r = bv (decide (0 ≤ n ∧ n ≤ 345686399999))) := by
 refine fc_moment (by simp +arith) ?_
 unfold C_moment
 simp (maxSteps := 1000000) (disch := omega) only [go_sem]
 refine CALL_det (out_fc _ _ _) (.inl rfl) ?_
 simp (maxSteps := 1000000) (disch := omega) only [go_sem]
 exact (bv_congr (by first | (simp; done) | (simp; omega)))
theorem window_fc (f t : Int) : FC Try.prog 27 none [winV f t] (fun _ r => r = bv (decide (winFault f t = 0))) := by
 refine fc_window (by simp +arith) ?_
 unfold C_window
 simp (maxSteps := 1000000) (disch := omega) only [go_sem]
 refine CALL_det (out_fc _ _ _) (.inl rfl) ?_
 simp (maxSteps := 1000000) (disch := omega) only [go_sem]
 exact ⟨fun h => bv_congr (by unfold winFault; simp; omega), fun h => bv_congr (by unfold winFault; simp; omega)⟩
theorem checkSample_fc (x : Smp) : FC Try.prog 38 none [smpV x] (fun _ r => r = iv (smpFault x)) := by
 refine fc_checkSample (by simp +arith) ?_
 unfold C_checkSample
 simp (maxSteps := 1000000) (disch := omega) only [go_sem]
 refine CALL_det (moment_fc _) (.inl rfl) ?_
 simp (maxSteps := 1000000) (disch := omega) only [go_sem]
 refine ⟨fun h1 => (iv_congr (by simp only [smpFault]; (repeat' split) <;> (first | omega | simp_all <;> omega))), fun h1 => ?_⟩
 refine CALL_det (out_fc _ _ _) (.inl rfl) ?_
 simp (maxSteps := 1000000) (disch := omega) only [go_sem]
 refine ⟨fun h2 => (iv_congr (by simp only [smpFault]; (repeat' split) <;> (first | omega | simp_all <;> omega))), fun h2 => ?_⟩
 refine CALL_det (out_fc _ _ _) (.inl rfl) ?_
 simp (maxSteps := 1000000) (disch := omega) only [go_sem]
 refine ⟨fun h3 => (iv_congr (by simp only [smpFault]; (repeat' split) <;> (first | omega | simp_all <;> omega))), fun h3 => ⟨fun h4 => ⟨fun h5 => (iv_congr (by simp only [smpFault]; (repeat' split) <;> (first | omega | simp_all <;> omega))), fun h5 => (iv_congr (by simp only [smpFault]; (repeat' split) <;> (first | omega | simp_all <;> omega)))⟩, fun h4 => (iv_congr (by simp only [smpFault]; (repeat' split) <;> (first | omega | simp_all <;> omega)))⟩⟩
theorem serFault_ok {l : List Smp} (h : serFault l = 0) : l.length ≤ 5000 ∧ serGo none l = 0 := by
 unfold serFault at h; split at h
 ·omega
 ·exact ⟨by omega, h⟩
/-- The sample ahead of number i. -/
def prv (l : List Smp) (i : Nat) : Option Smp := if i = 0 then none else some (l.getD (i - 1) default)
theorem serGo_step (l : List Smp) (i : Nat) (h : i < l.length) : serGo (prv l i) (l.drop i) = if smpFault (l.getD i default) ≠ 0 then smpFault (l.getD i default) else if (0 < i ∧ (l.getD i default).a ≤ (l.getD (i - 1) default).a) then 7 else serGo (prv l (i + 1)) (l.drop (i + 1)) := by
 have e : l.drop i = l.getD i default :: l.drop (i + 1) := by
  rw [List.drop_eq_getElem_cons h]; simp [List.getD_eq_getElem?_getD, h]
 rw [e, serGo.eq_def]
 simp only []
 by_cases hi : i = 0
 ·subst hi; simp [prv]
 ·have : 0 < i := by omega
  simp [prv, hi, this]
def csSt (l : List Smp) (i : Int) : AS := ⟨tabV [(0, smps false l), (9, smps false l), (10, iv l.length), (11, iv i)], tabO [], tabO []⟩
theorem checkSeries_fc (l : List Smp) (hl : l.length ≤ 4611686018427387904) : FC Try.prog 18 none [smps false l] (fun _ r => r = iv (serFault l)) := by
 refine fc_checkSeries (by simp +arith) ?_
 unfold C_checkSeries
 simp (maxSteps := 1000000) (disch := omega) only [go_sem]
 refine ⟨fun h => iv_congr (by unfold serFault; rw [if_pos (by omega)]), fun h => ?_⟩
 refine ex_loopI (csSt l) (fun i => 0 ≤ i ∧ i ≤ l.length ∧ serGo (prv l i.toNat) (l.drop i.toNat) = serFault l) (fun i => (l.length - i).toNat) 0 ⟨by omega, by omega, by unfold serFault; rw [if_neg (by omega)]; rfl⟩ rfl ?_
 rintro i ⟨g1, g2, g3⟩
 unfold csSt
 simp (maxSteps := 1000000) (disch := omega) only [go_sem]
 refine ⟨fun hi => and_then ⟨by omega, by omega⟩ fun _ => ?_, fun hi => ?_⟩
 ·have g4 := serGo_step l i.toNat (by omega)
  rw [g3] at g4
  rw [getD_map_in smpC l i.toNat [] (by omega)]
  simp (maxSteps := 1000000) (disch := omega) only [go_sem]
  refine CALL_det (checkSample_fc _) (.inl rfl) ?_
  simp (maxSteps := 1000000) (disch := omega) only [go_sem]
  have e1 : (i - 1).toNat = i.toNat - 1 := by omega
  have e2 : (i + 1).toNat = i.toNat + 1 := by omega
  rw [e1]
  refine ⟨fun h1 => iv_congr (by rw [g4, if_pos h1]), fun h1 => ⟨fun h2 => ⟨⟨by omega, by omega⟩, fun h3 => iv_congr (by rw [g4, if_neg h1, if_pos ⟨by omega, h3⟩]), fun h3 => ⟨i + 1, ⟨by omega, by omega, ?_⟩, rfl, by omega⟩⟩, fun h2 => ⟨i + 1, ⟨by omega, by omega, ?_⟩, rfl, by omega⟩⟩⟩
  ·rw [g4, if_neg h1, if_neg (fun h => h3 h.2), e2]
  ·rw [g4, if_neg h1, if_neg (fun h => h2 (by omega)), e2]
 ·refine iv_congr ?_
  rw [← g3, List.drop_eq_nil_of_le (by omega)]
  simp [serGo]
theorem in_fc (n lo hi : Int) : FC Try.prog 57 none [iv n, iv lo, iv hi] (fun _ r => r = bv (decide (lo ≤ n ∧ n ≤ hi))) := by
 refine fc_in_ (by simp +arith) ?_
 unfold C_in_
 simp (maxSteps := 1000000) (disch := omega) only [go_sem]
 (repeat' (first | apply And.intro | intro _)) <;> first | rfl | omega | exact iv_congr (by first | omega | ((try simp only []); (repeat' split) <;> (first | omega | (simp_all; done) | (simp_all; omega)))) | exact bv_dec (by first | omega | ((try simp only []); (repeat' split) <;> omega)) | exact bv_ndec (by first | omega | ((try simp only []); (repeat' split) <;> omega)) | exact bv_f (by first | omega | ((try simp only []); (repeat' split) <;> omega)) | exact bv_t (by first | omega | ((try simp only []); (repeat' split) <;> omega))
theorem rmoment2_fc (n : Int) : FC Try.prog 56 none [iv n] (fun _ r => r = bv (decide (0 ≤ n ∧ n ≤ 345686399999))) := by
 refine fc_rmoment2 (by simp +arith) ?_
 unfold C_rmoment2
 simp (maxSteps := 1000000) (disch := omega) only [go_sem]
 refine CALL_det (in_fc _ _ _) (.inl rfl) ?_
 simp (maxSteps := 1000000) (disch := omega) only [go_sem]
theorem sampleFault_fc (x : Smp) : FC Try.prog 35 none [smpV x] (fun _ r => r = iv (smpFault x)) := by
 refine fc_sampleFault (by simp +arith) ?_
 unfold C_sampleFault
 simp (maxSteps := 1000000) (disch := omega) only [go_sem]
 refine CALL_det (rmoment2_fc _) (.inl rfl) ?_
 simp (maxSteps := 1000000) (disch := omega) only [go_sem]
 refine ⟨fun h1 => (iv_congr (by simp only [smpFault]; (repeat' split) <;> (first | omega | simp_all <;> omega))), fun h1 => ?_⟩
 refine CALL_det (in_fc _ _ _) (.inl rfl) ?_
 simp (maxSteps := 1000000) (disch := omega) only [go_sem]
 refine ⟨fun h2 => (iv_congr (by simp only [smpFault]; (repeat' split) <;> (first | omega | simp_all <;> omega))), fun h2 => ?_⟩
 refine CALL_det (in_fc _ _ _) (.inl rfl) ?_
 simp (maxSteps := 1000000) (disch := omega) only [go_sem]
 refine ⟨fun h3 => (iv_congr (by simp only [smpFault]; (repeat' split) <;> (first | omega | simp_all <;> omega))), fun h3 => ⟨fun h4 => ⟨fun h5 => (iv_congr (by simp only [smpFault]; (repeat' split) <;> (first | omega | simp_all <;> omega))), fun h5 => (iv_congr (by simp only [smpFault]; (repeat' split) <;> (first | omega | simp_all <;> omega)))⟩, fun h4 => (iv_congr (by simp only [smpFault]; (repeat' split) <;> (first | omega | simp_all <;> omega)))⟩⟩
theorem seriesFault_fc (l : List Smp) (hl : l.length ≤ 4611686018427387904) : FC Try.prog 14 none [smps false l] (fun _ r => r = iv (serFault l)) := by
 refine fc_seriesFault (by simp +arith) ?_
 unfold C_seriesFault
 simp (maxSteps := 1000000) (disch := omega) only [go_sem]
 refine ⟨fun h => iv_congr (by unfold serFault; rw [if_pos (by omega)]), fun h => ?_⟩
 refine ex_loopI (csSt l) (fun i => 0 ≤ i ∧ i ≤ l.length ∧ serGo (prv l i.toNat) (l.drop i.toNat) = serFault l) (fun i => (l.length - i).toNat) 0 ⟨by omega, by omega, by unfold serFault; rw [if_neg (by omega)]; rfl⟩ rfl ?_
 rintro i ⟨g1, g2, g3⟩
 unfold csSt
 simp (maxSteps := 1000000) (disch := omega) only [go_sem]
 refine ⟨fun hi => and_then ⟨by omega, by omega⟩ fun _ => ?_, fun hi => ?_⟩
 ·have g4 := serGo_step l i.toNat (by omega)
  rw [g3] at g4
  rw [getD_map_in smpC l i.toNat [] (by omega)]
  simp (maxSteps := 1000000) (disch := omega) only [go_sem]
  refine CALL_det (sampleFault_fc _) (.inl rfl) ?_
  simp (maxSteps := 1000000) (disch := omega) only [go_sem]
  have e1 : (i - 1).toNat = i.toNat - 1 := by omega
  have e2 : (i + 1).toNat = i.toNat + 1 := by omega
  rw [e1]
  refine ⟨fun h1 => iv_congr (by rw [g4, if_pos h1]), fun h1 => ⟨fun h2 => ⟨⟨by omega, by omega⟩, fun h3 => iv_congr (by rw [g4, if_neg h1, if_pos ⟨by omega, h3⟩]), fun h3 => ⟨i + 1, ⟨by omega, by omega, ?_⟩, rfl, by omega⟩⟩, fun h2 => ⟨i + 1, ⟨by omega, by omega, ?_⟩, rfl, by omega⟩⟩⟩
  ·rw [g4, if_neg h1, if_neg (fun h => h3 h.2), e2]
  ·rw [g4, if_neg h1, if_neg (fun h => h2 (by omega)), e2]
 ·refine iv_congr ?_
  rw [← g3, List.drop_eq_nil_of_le (by omega)]
  simp [serGo]
def momFault (n : Int) : Int := if 0 ≤ n ∧ n ≤ 345686399999 then 0 else 1
def evFault (f t e : Int) : Int := if 1 ≤ e ∧ e ≤ 86400000 then (if 5000 < (t - f + e - 1).tdiv e then 2 else 0) else 1
/-- What is wrong with a series and a window. -/
def bothFault (l : List Smp) (f t : Int) : Int := if serFault l ≠ 0 then serFault l else winFault f t
end Go.Proofs.Ytiiblflmfadmbaa
namespace Go.Proofs.Ytiiblflmfadmbaa
open Go Go.Ai
set_option linter.unusedSimpArgs false
set_option linter.unusedVariables false
set_option maxHeartbeats 4000000
def C_gcd : AC := (.seq (.reg false [gI 4 (.mv (oI 0))] (kP [0,1] [] []))
 (.seq (.block 0 (.loop (.seq (.seq (.reg false [gM 5 1,gI 6 (.bin .neq (.t 5) (oI 0))] (kP [0,1,6] [] []))
 (.cond (.t 6)
 .skip
 (.exit 0)))
 (.block 1 (.reg true [gM 7 1,gM 8 0,gM 9 1,gI 10 (.bin .rem (.t 8) (.t 9)),gM 0 7,gM 1 10] (kP [0,1] [] []))))))
 (.seq (.reg false [gM 11 0,gM 4 11] (kP [4] [] []))
 .ret)))
theorem fc_gcd : FcT Try.prog 55 Try.f55 C_gcd [.t 4] := fc_mk [aN [0,1] [] [],aN [0,1,6] [] [],aN [0,1] [] [],aN [4] [] []] Try.func55 (by kernel_rfl)
def C_fraction : AC := (.seq (.reg false [gI 4 (.alloc [(.int .i64 (0)),(.int .i64 (0))])] (kP [0,1,4] [4] []))
 (.seq (.reg false [gM 6 0,gM 7 0,gI 8 (.un .neg (.t 7)),gI 9 (.mnx true (.t 6) (.t 8)),gM 10 1,gI 11 (.call (.f 55) [(.t 9),(.t 10)]),gM 5 11] (kP [0,1,4,5] [4] []))
 (.seq (.reg true [gM 12 0,gM 13 5,gI 14 (.bin .quo (.t 12) (.t 13)),gM 15 1,gM 16 5,gI 17 (.bin .quo (.t 15) (.t 16)),gI 18 (.build [(.int .i64 (0)),(.int .i64 (0))] [(0,1,(.t 14)),(1,1,(.t 17))]),gN (.store 2 (.t 4) (.t 18))] (kP [4] [4] []))
 .ret)))
theorem fc_fraction : FcT Try.prog 31 Try.f31 C_fraction [.cell 4 true 2] := fc_mk [aN [0,1,4] [4] [],aN [0,1,4,5] [4] [],aN [4] [4] []] Try.func31 (by kernel_rfl)
def C_bsf : AC := (.seq (.reg false [gI 6 (.mv (oI 0)),gI 7 (.mv (.v (.bool false)))] (kP [0,1,2] [] []))
 (.seq (.reg false [gM 12 0,gI 13 (.len (.t 12)),gM 8 13] (kP [0,1,2,8] [] []))
 (.seq (.reg false [gM 14 8,gI 9 (.mv (oI 0)),gM 10 14] (kP [0,1,2,8,9,10] [] []))
 (.seq (.block 0 (.loop (.seq (.seq (.reg false [gM 15 9,gM 16 10,gI 17 (.bin .lss (.t 15) (.t 16))] (kP [0,1,2,8,9,10,17] [] []))
 (.cond (.t 17)
 .skip
 (.exit 0)))
 (.block 1 (.seq (.reg false [gM 18 9,gM 19 10,gI 20 (.bin .add (.t 18) (.t 19)),gI 21 (.conv .u64 (.t 20)),gI 22 (.bin .shr (.t 21) (.v (.int .u64 (1)))),gI 23 (.conv .i64 (.t 22)),gM 11 23] (kP [0,1,2,8,9,10,11] [] []))
 (.seq (.reg false [gM 24 2,gM 25 0,gM 26 11,gI 27 (.iadr 3 (.t 25) (.t 26)),gI 28 (.load true 3 (.t 27)),gM 29 1,gI 30 (.call (.t 24) [(.t 28),(.t 29)]),gI 31 (.bin .lss (.t 30) (oI 0))] (kP [0,1,2,8,9,10,11,31] [] []))
 (.cond (.t 31)
 (.reg false [gM 32 11,gI 33 (.bin .add (.t 32) (oI 1)),gM 9 33] (kP [0,1,2,8,9,10] [] []))
 (.reg false [gM 34 11,gM 10 34] (kP [0,1,2,8,9,10] [] [])))))))))
 (.seq (.reg false [gM 35 9,gM 36 9,gM 37 8,gI 38 (.bin .lss (.t 36) (.t 37)),gM 39 38,gG 40 39 true (.mv (.t 2)),gG 41 39 true (.mv (.t 0)),gG 42 39 true (.mv (.t 9)),gG 43 39 true (.iadr 3 (.t 41) (.t 42)),gG 44 39 true (.load true 3 (.t 43)),gG 45 39 true (.mv (.t 1)),gG 46 39 true (.call (.t 40) [(.t 44),(.t 45)]),gG 47 39 true (.bin .eql (.t 46) (oI 0)),gI 48 (.pick (.t 39) (.t 47) (.v (.bool false))),gM 6 35,gM 7 48] (kP [6,7] [] []))
 .ret)))))
theorem fc_bsf : FcT Try.prog 53 Try.f53 C_bsf [.t 6, .t 7] := fc_mk [aN [0,1,2] [] [],aN [0,1,2,8] [] [],aN [0,1,2,8,9,10] [] [],aN [0,1,2,8,9,10,17] [] [],aN [0,1,2,8,9,10,11] [] [],aN [0,1,2,8,9,10,11,31] [] [],aN [0,1,2,8,9,10] [] [],aN [0,1,2,8,9,10] [] [],aN [6,7] [] []] Try.func53 (by kernel_rfl)
theorem tu2_congr {a b c d : Val} (h1 : a = c) (h2 : b = d) : Val.tu [a, b] = .tu [c, d] := by rw [h1, h2]
theorem tu3_congr {a b c d e f : Val} (h1 : a = d) (h2 : b = e) (h3 : c = f) : Val.tu [a, b, c] = .tu [d, e, f] := by rw [h1, h2, h3]
def gcdSt (x : Int × Int) : AS := ⟨tabV [(0, iv x.1), (1, iv x.2)], tabO [], tabO []⟩
theorem gcd_fc (a b : Int) (ha : 0 ≤ a) (hb : 0 ≤ b) : FC Try.prog 55 none [iv a, iv b] (fun _ r => r = iv (Nat.gcd a.toNat b.toNat)) := by
 refine fc_gcd (by simp +arith) ?_
 unfold C_gcd
 simp (maxSteps := 1000000) (disch := omega) only [go_sem]
 refine ex_loopI gcdSt (fun x => 0 ≤ x.1 ∧ 0 ≤ x.2 ∧ Nat.gcd x.1.toNat x.2.toNat = Nat.gcd a.toNat b.toNat) (fun x => x.2.toNat) (a, b) ⟨ha, hb, rfl⟩ rfl ?_
 rintro ⟨x, y⟩ ⟨h1, h2, h3⟩
 simp only at h1 h2 h3
 unfold gcdSt
 simp (maxSteps := 1000000) (disch := omega) only [go_sem]
 refine ⟨fun h => ⟨h, (y, x.tmod y), ⟨h2, ?_, ?_⟩, rfl, ?_⟩, fun h => ?_⟩
 ·rw [Int.tmod_eq_emod_of_nonneg h1]; exact Int.emod_nonneg _ h
 ·rw [Int.tmod_eq_emod_of_nonneg h1, ← h3, Nat.gcd_comm x.toNat y.toNat, Nat.gcd_rec y.toNat x.toNat, Nat.gcd_comm, Int.toNat_emod h1 h2]
 ·have := Int.emod_lt_of_pos x (show 0 < y by omega)
  have := Int.emod_nonneg x (show y ≠ 0 by omega)
  simp only
  rw [Int.tmod_eq_emod_of_nonneg h1]; omega
 ·have : y = 0 := by omega
  subst this
  refine iv_congr ?_
  rw [← h3]; simp; omega
/-- A fraction's lowest terms. -/
def lowG (n d : Int) : Int := Nat.gcd (max n (0 - n)).toNat d.toNat
theorem lowG_pos (n d : Int) (hd : 1 ≤ d) : 1 ≤ lowG n d := by
 unfold lowG
 have : 0 < Nat.gcd (max n (0 - n)).toNat d.toNat := Nat.gcd_pos_of_pos_right _ (by omega)
 omega
theorem tdiv_bd {n g B : Int} (hg : 1 ≤ g) (h1 : -B ≤ n) (h2 : n ≤ B) : -B ≤ n.tdiv g ∧ n.tdiv g ≤ B := by
 by_cases h : 0 ≤ n
 ·have h3 : 0 ≤ n.tdiv g := Int.tdiv_nonneg h (by omega)
  have h4 : n.tdiv g ≤ n := Int.tdiv_le_self _ h
  omega
 ·have h3 : 0 ≤ (-n).tdiv g := Int.tdiv_nonneg (by omega) (by omega)
  have h4 : (-n).tdiv g ≤ -n := Int.tdiv_le_self _ (by omega)
  rw [Int.neg_tdiv] at h3 h4
  omega
def lowN (n d : Int) : Int := n.tdiv (lowG n d)
def lowD (n d : Int) : Int := d.tdiv (lowG n d)
theorem fraction_fc (n d : Int) (hn : -4611686018427387904 ≤ n ∧ n ≤ 4611686018427387904) (hd : 1 ≤ d) (hd2 : d ≤ 4611686018427387904) : FC Try.prog 31 none [iv n, iv d] (fun _ r => r = .ag [.g (.int .i64 (lowN n d)), .g (.int .i64 (lowD n d))]) := by
 refine fc_fraction (by simp +arith) ?_
 unfold C_fraction
 simp (maxSteps := 1000000) (disch := omega) only [go_sem]
 refine CALL_det (gcd_fc _ _ (by omega) (by omega)) (.inl rfl) ?_
 have h1 := lowG_pos n d hd
 have h2 := tdiv_bd h1 hn.1 hn.2
 have h3 := tdiv_bd (n := d) (B := 4611686018427387904) h1 (by omega) hd2
 have e : ((Nat.gcd (max n (0 - n)).toNat d.toNat : Nat) : Int) = lowG n d := rfl
 rw [e]
 simp (maxSteps := 1000000) (disch := omega) only [go_sem]
 rfl
theorem mul_bd {a b A B : Int} (ha : -A ≤ a ∧ a ≤ A) (hb : -B ≤ b ∧ b ≤ B) : -(A * B) ≤ a * b ∧ a * b ≤ A * B := by
 have h : (a * b).natAbs ≤ A.natAbs * B.natAbs := by
  rw [Int.natAbs_mul]; exact Nat.mul_le_mul (by omega) (by omega)
 have h2 : ((A.natAbs * B.natAbs : Nat) : Int) = A * B := by
  rw [Int.natCast_mul]
  rw [Int.natAbs_of_nonneg (by omega), Int.natAbs_of_nonneg (by omega)]
 omega
/-- The numerator of the value on the line between two samples. -/
def lineN (p n : Smp) (at_ : Int) : Int := p.v * (n.a - p.a) + (n.v - p.v) * (at_ - p.a)
def okSmp (x : Smp) : Prop := 0 ≤ x.a ∧ x.a ≤ 345686399999 ∧ -1000000 ≤ x.v ∧ x.v ≤ 1000000 ∧ 0 ≤ x.q ∧ x.q ≤ 2
theorem okSmp_of {x : Smp} (h : smpFault x = 0) : okSmp x ∧ (x.q = 2 → x.v = 0) := by
 unfold smpFault at h; unfold okSmp
 (repeat' split at h) <;> (first | omega | (refine ⟨by omega, fun h' => by simp_all⟩))
theorem lineN_bd {p n : Smp} {at_ : Int} (hp : okSmp p) (hn : okSmp n) (ha : 0 ≤ at_ ∧ at_ ≤ 345686400000) :
  (-1000000000000000000 ≤ p.v * (n.a - p.a) ∧ p.v * (n.a - p.a) ≤ 1000000000000000000) ∧ (-1000000000000000000 ≤ (n.v - p.v) * (at_ - p.a) ∧ (n.v - p.v) * (at_ - p.a) ≤ 1000000000000000000) := by
 obtain ⟨h1, h2, h3, h4, h5, h6⟩ := hp
 obtain ⟨g1, g2, g3, g4, g5, g6⟩ := hn
 have e1 := mul_bd (a := p.v) (b := n.a - p.a) (A := 1000000) (B := 345686400000) ⟨by omega, by omega⟩ ⟨by omega, by omega⟩
 have e2 := mul_bd (a := n.v - p.v) (b := at_ - p.a) (A := 2000000) (B := 345686400000) ⟨by omega, by omega⟩ ⟨by omega, by omega⟩
 omega
/-- The number of the last sample at or before a moment, or -1. -/
def holdGo (at_ : Int) : List Smp → Int → Int → Int
 | [], _, k => k
 | x :: t, i, k => holdGo at_ t (i + 1) (if x.a ≤ at_ then i else k)
def hold (l : List Smp) (at_ : Int) : Int := holdGo at_ l 0 (-1)
theorem drop_cons {α : Type} [Inhabited α] (l : List α) (i : Nat) (h : i < l.length) : l.drop i = l.getD i default :: l.drop (i + 1) := by
 rw [List.drop_eq_getElem_cons h]; simp [List.getD_eq_getElem?_getD, h]
def holdsSt (l : List Smp) (at_ : Int) (x : Int × Int) : AS := ⟨tabV [(1, iv at_), (5, iv x.2), (8, smps false l), (9, iv l.length), (10, iv x.1)], tabO [], tabO []⟩
/-- A series that nothing is wrong with. -/
structure Good (l : List Smp) : Prop where
 len : l.length ≤ 5000
 ok : ∀ i, i < l.length → okSmp (l.getD i default)
 bad : ∀ i, i < l.length → (l.getD i default).q = 2 → (l.getD i default).v = 0
 up : ∀ i j, i < j → j < l.length → (l.getD i default).a < (l.getD j default).a
theorem good_of {l : List Smp} (h : serFault l = 0) : Good l := by
 obtain ⟨h1, h2⟩ := serFault_ok h
 have h3 : ∀ i, i ≤ l.length → serGo (prv l i) (l.drop i) = 0 := by
  intro i
  induction i with
  | zero => intro _; simpa [prv] using h2
  | succ i ih =>
   intro hi
   have := ih (by omega)
   rw [serGo_step l i (by omega)] at this
   split at this
   ·contradiction
   ·split at this
    ·omega
    ·exact this
 have h4 : ∀ i, i < l.length → smpFault (l.getD i default) = 0 ∧ (0 < i → (l.getD (i - 1) default).a < (l.getD i default).a) := by
  intro i hi
  have := h3 i (by omega)
  rw [serGo_step l i hi] at this
  split at this
  ·contradiction
  ·rename_i h5
   split at this
   ·omega
   ·rename_i h6
    exact ⟨by omega, fun h7 => by
     have := fun h8 => h6 ⟨h7, h8⟩
     omega⟩
 refine ⟨h1, fun i hi => (okSmp_of (h4 i hi).1).1, fun i hi => (okSmp_of (h4 i hi).1).2, fun i j hij => ?_⟩
 induction j with
 | zero => omega
 | succ j ih =>
  intro hj
  have h5 := (h4 (j + 1) hj).2 (by omega)
  by_cases e : i = j
  ·subst e; exact h5
  ·have h6 := ih (by omega) (by omega)
   simp only [Nat.add_sub_cancel] at h5
   omega
theorem Good.le {l : List Smp} (h : Good l) (i j : Nat) (hij : i ≤ j) (hj : j < l.length) : (l.getD i default).a ≤ (l.getD j default).a := by
 by_cases e : i = j
 ·subst e; omega
 ·have := h.up i j (by omega) hj; omega
theorem holdGo_spec (at_ : Int) : ∀ (l : List Smp) (i k : Int), (∀ x ∈ l, at_ < x.a) → holdGo at_ l i k = k
 | [], _, _, _ => rfl
 | x :: t, i, k, h => by
  have h1 := h x (by simp)
  rw [holdGo, if_neg (by omega)]
  exact holdGo_spec at_ t _ _ (fun y hy => h y (by simp [hy]))
theorem holdGo_last (at_ : Int) : ∀ (l : List Smp) (i k : Int) (n : Nat), n < l.length → (l.getD n default).a ≤ at_ → (∀ m, n < m → m < l.length → at_ < (l.getD m default).a) → holdGo at_ l i k = i + n
 | [], _, _, n, h, _, _ => by simp at h
 | x :: t, i, k, n, h, h1, h2 => by
  rw [holdGo]
  cases n with
  | zero =>
   rw [if_pos (by simpa using h1), holdGo_spec at_ t _ _ (fun y hy => ?_)]
   ·simp
   ·obtain ⟨m, hm, rfl⟩ := List.getElem_of_mem hy
    have := h2 (m + 1) (by omega) (by simp; omega)
    simpa [List.getD_eq_getElem?_getD, hm] using this
  | succ n =>
   rw [holdGo_last at_ t _ _ n (by simpa using h) (by simpa using h1) (fun m hm hm2 => by simpa using h2 (m + 1) (by omega) (by simp; omega))]
   omega
/-- The last sample's number, out of how many lie at or before the moment. -/
theorem hold_eq {l : List Smp} {at_ k : Int} (h0 : -1 ≤ k) (hk : k < l.length) (h1 : ∀ j : Nat, j ≤ k → j < l.length → (l.getD j default).a ≤ at_) (h2 : ∀ j : Nat, k < j → j < l.length → at_ < (l.getD j default).a) : hold l at_ = k := by
 unfold hold
 by_cases h : k = -1
 ·subst h
  refine holdGo_spec at_ l 0 (-1) (fun x hx => ?_)
  obtain ⟨m, hm, rfl⟩ := List.getElem_of_mem hx
  have := h2 m (by omega) hm
  simpa [List.getD_eq_getElem?_getD, hm] using this
 ·rw [holdGo_last at_ l 0 (-1) k.toNat (by omega) (h1 _ (by omega) (by omega)) (fun m hm hm2 => h2 m (by omega) hm2)]
  omega
/-- Where the first sample at or behind a moment stands. -/
def pos (l : List Smp) (at_ : Int) : Int := hold l (at_ - 1) + 1
theorem pos_eq {l : List Smp} {at_ k : Int} (h0 : 0 ≤ k) (hk : k ≤ l.length) (h1 : ∀ j : Nat, j < k → (l.getD j default).a < at_) (h2 : ∀ j : Nat, k ≤ j → j < l.length → at_ ≤ (l.getD j default).a) : k = pos l at_ := by
 have := hold_eq (l := l) (at_ := at_ - 1) (k := k - 1) (by omega) (by omega) (fun j hj hj2 => by have := h1 j (by omega); omega) (fun j hj hj2 => by have := h2 j (by omega) hj2; omega)
 unfold pos; omega
theorem hold_spec (l : List Smp) (at_ : Int) (hg : ∀ i j, i ≤ j → j < l.length → (l.getD i default).a ≤ (l.getD j default).a) : -1 ≤ hold l at_ ∧ hold l at_ < l.length ∧ (∀ j : Nat, j ≤ hold l at_ → j < l.length → (l.getD j default).a ≤ at_) ∧ (∀ j : Nat, hold l at_ < j → j < l.length → at_ < (l.getD j default).a) := by
 have key : ∀ n : Nat, n ≤ l.length → ∃ k : Int, -1 ≤ k ∧ k < n ∧ (∀ j : Nat, j ≤ k → j < n → (l.getD j default).a ≤ at_) ∧ (∀ j : Nat, k < j → j < n → at_ < (l.getD j default).a) := by
  intro n
  induction n with
  | zero => intro _; exact ⟨-1, by omega, by omega, fun j _ hj => by omega, fun j _ hj => by omega⟩
  | succ n ih =>
   intro hn
   obtain ⟨k, h1, h2, h3, h4⟩ := ih (by omega)
   by_cases hc : (l.getD n default).a ≤ at_
   ·exact ⟨n, by omega, by omega, fun j hj hj2 => Int.le_trans (hg j n (by omega) (by omega)) hc, fun j hj hj2 => by omega⟩
   ·refine ⟨k, h1, by omega, fun j hj hj2 => h3 j hj (by omega), fun j hj hj2 => ?_⟩
    by_cases e : j = n
    ·subst e; omega
    ·exact h4 j hj (by omega)
 obtain ⟨k, h1, h2, h3, h4⟩ := key l.length (Nat.le_refl _)
 have := hold_eq h1 h2 h3 h4
 rw [this]
 exact ⟨h1, h2, h3, h4⟩
theorem pos_bd {l : List Smp} (hg : Good l) (at_ : Int) : 0 ≤ pos l at_ ∧ pos l at_ ≤ l.length := by
 obtain ⟨g1, g2, g3, g4⟩ := hold_spec l (at_ - 1) (fun i j h h' => hg.le i j h h')
 unfold pos; omega
theorem hold_pos {l : List Smp} (hg : Good l) (at_ : Int) : hold l at_ = if pos l at_ < l.length ∧ (l.getD (pos l at_).toNat default).a = at_ then pos l at_ else pos l at_ - 1 := by
 obtain ⟨h1, h2, h3, h4⟩ := hold_spec l at_ (fun i j h h' => hg.le i j h h')
 obtain ⟨g1, g2, g3, g4⟩ := hold_spec l (at_ - 1) (fun i j h h' => hg.le i j h h')
 have hp := pos_bd hg at_
 refine hold_eq (by unfold pos; split <;> omega) (by unfold pos; split <;> omega) (fun j hj hj2 => ?_) (fun j hj hj2 => ?_)
 ·split at hj
  ·rename_i h5
   have := hg.le j (pos l at_).toNat (by omega) (by omega); omega
  ·unfold pos at hj; have := g3 j (by omega) hj2; omega
 ·split at hj
  ·rename_i h5
   have := hg.up (pos l at_).toNat j (by omega) hj2; omega
  ·rename_i h5
   unfold pos at hj h5
   have := g4 j (by omega) hj2
   by_cases e : (j : Int) = hold l (at_ - 1) + 1
   ·have e2 : (hold l (at_ - 1) + 1).toNat = j := by omega
    rw [e2] at h5; omega
   ·have := hg.up (hold l (at_ - 1) + 1).toNat j (by omega) hj2
    have := g4 (hold l (at_ - 1) + 1).toNat (by omega) (by omega)
    omega
/-- A value at a moment: the moment, the fraction, the quality. -/
structure Pt where
 a : Int
 n : Int
 d : Int
 q : Int
 deriving Inhabited
def ptC (x : Pt) : List Cel := [.g (.int .i64 x.a), .g (.int .i64 x.n), .g (.int .i64 x.d), .g (.int .i64 x.q)]
theorem ptC_eq (x : Pt) : ptC x = [.g (.int .i64 x.a), .g (.int .i64 x.n), .g (.int .i64 x.d), .g (.int .i64 x.q)] := (rfl)
theorem frE_pt (l : List Pt) : frE (l.map ptC) = true := frE_map (fun _ => rfl) l
theorem datE_pt (l : List Pt) : datE (l.map ptC) = l.map ptC := datE_map (fun _ => rfl) l
theorem tofE_pt (l : List Pt) : tofE (l.map ptC) = l.map ptC := tofE_map (fun _ => rfl) l
attribute [go_sem] ptC_eq frE_pt datE_pt tofE_pt
abbrev ptV (x : Pt) : Val := .ag (ptC x)
def ptZ : Pt := ⟨0, 0, 0, 0⟩
theorem ptZ_a : ptZ.a = 0 := (rfl)
theorem ptZ_n : ptZ.n = 0 := (rfl)
theorem ptZ_d : ptZ.d = 0 := (rfl)
theorem ptZ_q : ptZ.q = 0 := (rfl)
attribute [go_sem] ptZ_a ptZ_n ptZ_d ptZ_q
def valSp (l : List Smp) (st : Bool) (at_ : Int) : Pt × Bool :=
 let k := hold l at_
 let p := l.getD k.toNat default
 let n := l.getD (k + 1).toNat default
 if k < 0 then (ptZ, false)
 else if p.q = 2 ∨ st = true ∨ p.a = at_ ∨ k + 1 = l.length ∨ n.q = 2 then (⟨at_, p.v, 1, p.q⟩, true)
 else (⟨at_, lowN (lineN p n at_) (n.a - p.a), lowD (lineN p n at_) (n.a - p.a), max p.q n.q⟩, true)
end Go.Proofs.Ytiiblflmfadmbaa
namespace Go.Proofs.Ytiiblflmfadmbaa
open Go Go.Ai
set_option linter.unusedSimpArgs false
set_option linter.unusedVariables false
set_option maxHeartbeats 4000000
def C_below : AC := (.seq (.reg false [gI 4 (.mv (oI 0))] (kP [0,1] [] []))
 (.seq (.seq (.reg false [gM 5 1,gI 6 (.bin .lss (.t 5) (oI 1))] (kP [0,1,6] [] []))
 (.cond (.t 6)
 (.seq (.reg false [gI 4 (.mv (oI 0))] (kP [4] [] []))
 .ret)
 .skip))
 (.seq (.reg false [gM 7 0,gM 8 1,gI 9 (.bin .rem (.t 7) (.t 8)),gM 0 9] (kP [0,1] [] []))
 (.seq (.seq (.reg false [gM 10 0,gI 11 (.bin .lss (.t 10) (oI 0))] (kP [0,1,11] [] []))
 (.cond (.t 11)
 (.reg false [gM 12 0,gM 13 1,gI 14 (.bin .add (.t 12) (.t 13)),gM 0 14] (kP [0] [] []))
 .skip))
 (.seq (.reg false [gM 15 0,gM 4 15] (kP [4] [] []))
 .ret)))))
theorem fc_below : FcT Try.prog 36 Try.f36 C_below [.t 4] := fc_mk [aN [0,1] [] [],aN [0,1,6] [] [],aN [4] [] [],aN [0,1] [] [],aN [0,1,11] [] [],aN [0] [] [],aN [4] [] []] Try.func36 (by kernel_rfl)
def C_next : AC := (.seq (.reg false [gI 4 (.mv (oI 0))] (kP [0,1] [0] []))
 (.seq (.reg false [gM 7 0,gI 8 (.nilchk (.t 7)),gI 9 (.fadr 1 (.t 8)),gI 10 (.load false 1 (.t 9)),gI 11 (.bin .add (.t 10) (oI 1)),gI 12 (.nilchk (.t 7)),gI 13 (.fadr 1 (.t 12)),gN (.store 1 (.t 13) (.t 11))] (kP [0,1] [0] []))
 (.seq (.seq (.reg false [gM 14 0,gI 15 (.nilchk (.t 14)),gI 16 (.fadr 0 (.t 15)),gI 17 (.load false 1 (.t 16)),gI 18 (.len (.t 17)),gI 19 (.bin .eql (.t 18) (oI 0))] (kP [0,1,19] [0] []))
 (.cond (.t 19)
 (.seq (.reg false [gM 20 0,gI 21 (.nilchk (.t 20)),gI 22 (.fadr 1 (.t 21)),gI 23 (.load false 1 (.t 22)),gI 24 (.bin .mul (.t 23) (oI 7919)),gM 25 1,gI 26 (.call (.f 36) [(.t 24),(.t 25)]),gM 4 26] (kP [4] [0] []))
 .ret)
 .skip))
 (.seq (.reg true [gM 27 0,gI 28 (.nilchk (.t 27)),gI 29 (.fadr 1 (.t 28)),gI 30 (.load false 1 (.t 29)),gI 31 (.bin .sub (.t 30) (oI 1)),gM 32 0,gI 33 (.nilchk (.t 32)),gI 34 (.fadr 0 (.t 33)),gI 35 (.load false 1 (.t 34)),gI 36 (.len (.t 35)),gI 37 (.bin .rem (.t 31) (.t 36)),gM 5 37] (kP [0,1,5] [0] []))
 (.seq (.reg true [gM 38 0,gI 39 (.nilchk (.t 38)),gI 40 (.fadr 1 (.t 39)),gI 41 (.load false 1 (.t 40)),gI 42 (.bin .sub (.t 41) (oI 1)),gM 43 0,gI 44 (.nilchk (.t 43)),gI 45 (.fadr 0 (.t 44)),gI 46 (.load false 1 (.t 45)),gI 47 (.len (.t 46)),gI 48 (.bin .quo (.t 42) (.t 47)),gM 6 48] (kP [0,1,5,6] [0] []))
 (.seq (.reg false [gM 49 0,gI 50 (.nilchk (.t 49)),gI 51 (.fadr 0 (.t 50)),gI 52 (.load false 1 (.t 51)),gM 53 5,gI 54 (.iadr 1 (.t 52) (.t 53)),gI 55 (.load false 1 (.t 54)),gI 56 (.call (.f 36) [(.t 55),(oI 1073741824)]),gM 57 6,gM 58 5,gI 59 (.bin .add (oI 7919) (.t 58)),gI 60 (.bin .mul (.t 57) (.t 59)),gI 61 (.bin .add (.t 56) (.t 60)),gM 62 1,gI 63 (.call (.f 36) [(.t 61),(.t 62)]),gM 4 63] (kP [4] [0] []))
 .ret))))))
theorem fc_next : FcT Try.prog 15 Try.f15 C_next [.t 4] := fc_mk [aN [0,1] [0] [],aN [0,1] [0] [],aN [0,1,19] [0] [],aN [4] [0] [],aN [0,1,5] [0] [],aN [0,1,5,6] [0] [],aN [4] [0] []] Try.func15 (by kernel_rfl)
def C_range : AC := (.seq (.reg false [gI 6 (.mv (oI 0))] (kP [0,1,2] [0] []))
 (.seq (.seq (.reg false [gM 7 2,gM 8 1,gI 9 (.bin .lss (.t 7) (.t 8))] (kP [0,1,2,9] [0] []))
 (.cond (.t 9)
 (.seq (.reg false [gM 10 1,gM 6 10] (kP [6] [0] []))
 .ret)
 .skip))
 (.seq (.reg false [gM 11 1,gM 12 0,gM 13 2,gM 14 1,gI 15 (.bin .sub (.t 13) (.t 14)),gI 16 (.bin .add (.t 15) (oI 1)),gI 17 (.callx (.f 15) [(.t 12),(.t 16)]),gI 18 (.bin .add (.t 11) (.t 17)),gM 6 18] (kP [6] [0] []))
 .ret)))
theorem fc_range : FcT Try.prog 5 Try.f5 C_range [.t 6] := fc_mk [aN [0,1,2] [0] [],aN [0,1,2,9] [0] [],aN [6] [0] [],aN [6] [0] []] Try.func5 (by kernel_rfl)
def C_flip : AC := (.seq (.reg false [gI 4 (.mv (.v (.bool false)))] (kP [0,1] [0] []))
 (.seq (.reg false [gM 5 0,gM 6 1,gI 7 (.callx (.f 15) [(.t 5),(.t 6)]),gI 8 (.bin .eql (.t 7) (oI 0)),gM 4 8] (kP [4] [0] []))
 .ret))
theorem fc_flip : FcT Try.prog 33 Try.f33 C_flip [.t 4] := fc_mk [aN [0,1] [0] [],aN [4] [0] []] Try.func33 (by kernel_rfl)
def C_pick : AC := (.seq (.reg false [gI 4 (.mv (oI 0))] (kP [0,1] [0] []))
 (.seq (.reg false [gM 5 1,gM 6 0,gM 7 1,gI 8 (.len (.t 7)),gI 9 (.callx (.f 15) [(.t 6),(.t 8)]),gI 10 (.iadr 1 (.t 5) (.t 9)),gI 11 (.load false 1 (.t 10)),gM 4 11] (kP [4] [0] []))
 .ret))
theorem fc_pick : FcT Try.prog 32 Try.f32 C_pick [.t 4] := fc_mk [aN [0,1] [0] [],aN [4] [0] []] Try.func32 (by kernel_rfl)
def C_odd : AC := (.seq (.reg false [gI 6 (.mv (oI 0))] (kP [0,1,2] [0] []))
 (.seq (.seq (.reg false [gM 7 0,gI 8 (.callx (.f 33) [(.t 7),(oI 12)])] (kP [0,1,2,8] [0] []))
 (.cond (.t 8)
 (.seq (.reg false [gM 9 0,gM 10 1,gI 11 (.bin .sub (.t 10) (oI 1)),gM 12 2,gI 13 (.bin .add (.t 12) (oI 1)),gM 14 1,gM 15 2,gI 16 (.bslice 1 6 [(.t 11),(.t 13),(.t 14),(.t 15),(oI (-1099511627776)),(oI 1099511627776)]),gI 17 (.callx (.f 32) [(.t 9),(.t 16)]),gM 6 17] (kP [6] [0] []))
 .ret)
 .skip))
 (.seq (.reg false [gM 18 0,gM 19 1,gM 20 2,gI 21 (.callx (.f 5) [(.t 18),(.t 19),(.t 20)]),gM 6 21] (kP [6] [0] []))
 .ret)))
theorem fc_odd : FcT Try.prog 34 Try.f34 C_odd [.t 6] := fc_mk [aN [0,1,2] [0] [],aN [0,1,2,8] [0] [],aN [6] [0] [],aN [6] [0] []] Try.func34 (by kernel_rfl)
theorem below_fc (x n : Int) (h1 : 1 ≤ n) (hn : n ≤ 9223372036854775807) (hx : I64 x) : FC Try.prog 36 none [iv x, iv n] (fun _ r => r = iv (x % n)) := by
 refine fc_below (by simp +arith) ?_
 obtain ⟨hx1, hx2⟩ := hx
 unfold C_below
 simp (maxSteps := 1000000) (disch := omega) only [go_sem]
 have e1 : x.tmod n = if 0 ≤ x then x % n else if n ∣ x then 0 else x % n - n := by
  rw [Int.tmod_eq_emod]
  by_cases h3 : 0 ≤ x
  ·simp [h3]
  ·by_cases h4 : n ∣ x
   ·simp [h4, Int.emod_eq_zero_of_dvd h4]
   ·simp only [h3, h4, or_self, if_false]; omega
 have e2 := Int.emod_nonneg x (show n ≠ 0 by omega)
 have e3 := Int.emod_lt_of_pos x (show 0 < n by omega)
 have e4 : n ∣ x → x % n = 0 := fun h => Int.emod_eq_zero_of_dvd h
 refine ⟨fun h => ?_, fun h => ?_⟩
 ·rw [e1] at h ⊢
  split at h
  ·omega
  ·rename_i h3
   rw [if_neg h3]
   split at h
   ·omega
   ·rename_i h4
    rw [if_neg h4, wrap_i64 _ (by omega) (by omega)]
    show iv _ = iv _
    congr 4
    omega
 ·rw [e1] at h ⊢
  split at h
  ·rename_i h3; rw [if_pos h3]
  ·rename_i h3
   rw [if_neg h3]
   split at h
   ·rename_i h4; rw [if_pos h4, e4 h4]
   ·omega
theorem next_fc (n : Int) (h1 : 1 ≤ n) (hn : n ≤ 9223372036854775807) : Gen Try.prog 15 [iv n] 1 (fun r => ∃ x, 0 ≤ x ∧ x < n ∧ r = iv x) := by
 intro L p hL hl h0 hp
 refine fc_next (by simp +arith) ?_
 have e0 : ∀ x, 0 ≤ x % n ∧ x % n < n := fun x => ⟨Int.emod_nonneg x (by omega), Int.emod_lt_of_pos x (by omega)⟩
 unfold C_next strm
 simp (maxSteps := 1000000) (disch := omega) only [go_sem]
 refine ⟨fun h => ?_, fun h => ?_⟩
 ·refine CALL_det (below_fc _ n h1 hn (wrap_in _)) (.inl rfl) ?_
  simp (maxSteps := 1000000) (disch := omega) only [go_sem]
  exact ⟨⟨p + 1, by omega, by omega, rfl⟩, _, (e0 _).1, (e0 _).2, rfl⟩
 ·have h3 : 0 < (L.length : Int) := by omega
  have h4 : (p + 1 - 1).tmod (L.length : Int) = (p + 1 - 1) % (L.length : Int) := Int.tmod_eq_emod_of_nonneg (by omega)
  have h5 := Int.emod_nonneg (p + 1 - 1) (show (L.length : Int) ≠ 0 by omega)
  have h6 := Int.emod_lt_of_pos (p + 1 - 1) h3
  rw [h4]
  refine ⟨h, h, ⟨by omega, by omega⟩, ?_⟩
  simp (maxSteps := 1000000) (disch := omega) only [go_sem]
  refine CALL_det (below_fc _ 1073741824 (by omega) (by omega) (hL _ (getD_mem _ _ (by omega)))) (.inl rfl) ?_
  simp (maxSteps := 1000000) (disch := omega) only [go_sem]
  refine CALL_det (below_fc _ n h1 hn (wrap_in _)) (.inl rfl) ?_
  simp (maxSteps := 1000000) (disch := omega) only [go_sem]
  exact ⟨⟨p + 1, by omega, by omega, rfl⟩, _, (e0 _).1, (e0 _).2, rfl⟩
theorem range_fc (lo hi : Int) (h1 : lo ≤ hi) (h2 : -4611686018427387904 ≤ lo) (h3 : hi ≤ 4611686018427387902) : Gen Try.prog 5 [iv lo, iv hi] 1 (fun r => ∃ x, lo ≤ x ∧ x ≤ hi ∧ r = iv x) := by
 intro L p hL hl h0 hp
 refine fc_range (by simp +arith) ?_
 unfold C_range strm
 simp (maxSteps := 1000000) (disch := omega) only [go_sem]
 refine callx_gen (next_fc (hi - lo + 1) (by omega) (by omega)) hL hl h0 hp ⟨_, 0, by omega, by omega, rfl⟩ ?_
 rintro p' r h4 h5 ⟨x, h6, h7, rfl⟩
 refine ⟨rfl, ?_⟩
 unfold strm
 simp (maxSteps := 1000000) (disch := omega) only [go_sem]
 exact ⟨⟨p', by omega, by omega, rfl⟩, _, by omega, by omega, rfl⟩
theorem flip_fc (n : Int) (h1 : 1 ≤ n) (hn : n ≤ 9223372036854775807) : Gen Try.prog 33 [iv n] 1 (fun r => ∃ b, r = bv b) := by
 intro L p hL hl h0 hp
 refine fc_flip (by simp +arith) ?_
 unfold C_flip strm
 simp (maxSteps := 1000000) (disch := omega) only [go_sem]
 refine callx_gen (next_fc n h1 hn) hL hl h0 hp ⟨_, 0, by omega, by omega, rfl⟩ ?_
 rintro p' r h4 h5 ⟨x, h6, h7, rfl⟩
 refine ⟨rfl, ?_⟩
 unfold strm
 simp (maxSteps := 1000000) (disch := omega) only [go_sem]
 exact ⟨⟨p', by omega, by omega, rfl⟩, _, rfl⟩
theorem pick_fc (fr : Bool) (l : List Int) (h1 : 0 < l.length) (h2 : l.length ≤ 9223372036854775807) : Gen Try.prog 32 [ints fr l] 1 (fun r => ∃ x ∈ l, r = iv x) := by
 intro L p hL hl h0 hp
 refine fc_pick (by simp +arith) ?_
 unfold C_pick strm
 simp (maxSteps := 1000000) (disch := omega) only [go_sem]
 refine callx_gen (next_fc l.length (by omega) (by omega)) hL hl h0 hp ⟨_, 0, by omega, by omega, rfl⟩ ?_
 rintro p' r h4 h5 ⟨x, h6, h7, rfl⟩
 refine ⟨rfl, ?_⟩
 unfold strm
 simp (maxSteps := 1000000) (disch := omega) only [go_sem]
 exact ⟨⟨p', by omega, by omega, rfl⟩, _, getD_mem _ _ (by omega), rfl⟩
theorem odd_fc (lo hi : Int) (h1 : lo ≤ hi) (h2 : -1152921504606846976 ≤ lo) (h3 : hi ≤ 1152921504606846976) : Gen Try.prog 34 [iv lo, iv hi] 2 (fun r => ∃ x, I64 x ∧ r = iv x) := by
 intro L p hL hl h0 hp
 refine fc_odd (by simp +arith) ?_
 unfold C_odd strm
 simp (maxSteps := 1000000) (disch := omega) only [go_sem]
 refine callx_gen (flip_fc 12 (by omega) (by omega)) hL hl h0 (by omega) ⟨_, true, rfl⟩ ?_
 rintro p' r h4 h5 ⟨b, rfl⟩
 refine ⟨rfl, ?_⟩
 unfold strm
 simp (maxSteps := 1000000) (disch := omega) only [go_sem]
 refine ⟨fun _ => ?_, fun _ => ?_⟩
 ·refine callx_gen (pick_fc false [lo - 1, hi + 1, lo, hi, -1099511627776, 1099511627776] (by simp) (by simp)) hL hl (by omega) (by omega) ⟨_, lo, by simp, rfl⟩ ?_
  rintro p'' r h6 h7 ⟨x, hx, rfl⟩
  refine ⟨rfl, ?_⟩
  unfold strm
  simp (maxSteps := 1000000) (disch := omega) only [go_sem]
  refine ⟨⟨p'', by omega, by omega, rfl⟩, _, ?_, rfl⟩
  simp only [List.mem_cons, List.not_mem_nil, or_false] at hx
  unfold I64; omega
 ·refine callx_gen (range_fc lo hi h1 (by omega) (by omega)) hL hl (by omega) (by omega) ⟨_, lo, by omega, by omega, rfl⟩ ?_
  rintro p'' r h6 h7 ⟨x, hx, hx', rfl⟩
  refine ⟨rfl, ?_⟩
  unfold strm
  simp (maxSteps := 1000000) (disch := omega) only [go_sem]
  exact ⟨⟨p'', by omega, by omega, rfl⟩, _, by unfold I64; omega, rfl⟩
end Go.Proofs.Ytiiblflmfadmbaa
namespace Go.Proofs.Ytiiblflmfadmbaa
open Go Go.Ai
set_option linter.unusedSimpArgs false
set_option linter.unusedVariables false
set_option maxHeartbeats 4000000
def C_curve : AC := (.seq (.reg false [gI 4 (.mv (.v (.slice none 0 0)))] (kP [0,1] [0] []))
 (.seq (.seq (.reg false [gI 5 (.mv (.v (.slice none 0 0)))] (kP [0,1,5] [0] []))
 (.own 5 45 3))
 (.seq (.reg false [gM 10 0,gI 11 (.bslice 1 4 [(oI 0),(oI 0),(oI 5),(oI 40)]),gI 12 (.callx (.f 32) [(.t 10),(.t 11)]),gM 13 0,gI 14 (.bslice 1 4 [(oI 0),(oI 5),(oI 10),(oI (-3))]),gI 15 (.callx (.f 32) [(.t 13),(.t 14)]),gM 6 12,gM 7 15] (kP [0,1,5,6,7] [0] [5]))
 (.seq (.seq (.reg false [gM 16 0,gM 17 1,gI 18 (.callx (.f 5) [(.t 16),(oI 0),(.t 17)]),gI 19 (.mv (oI 0))] (kP [0,5,6,7,18,19] [0] [5]))
 (.block 0 (.loop (.seq (.reg false [gI 20 (.bin .lss (.t 19) (.t 18))] (kP [0,5,6,7,18,19,20] [0] [5]))
 (.seq (.cond (.t 20)
 .skip
 (.exit 0))
 (.seq (.block 1 (.seq (.reg false [gM 21 6,gM 22 7,gM 23 0,gI 24 (.bslice 1 7 [(oI 0),(oI 0),(oI 0),(oI 0),(oI 0),(oI 1),(oI 2)]),gI 25 (.callx (.f 32) [(.t 23),(.t 24)]),gI 26 (.build [(.int .i64 (0)),(.int .i64 (0)),(.int .i64 (0))] [(0,1,(.t 21)),(1,1,(.t 22)),(2,1,(.t 25))]),gI 8 (.alloc [(.int .i64 (0)),(.int .i64 (0)),(.int .i64 (0))]),gN (.store 3 (.t 8) (.t 26))] (kP [0,5,6,7,8,18,19] [0,8] [5]))
 (.seq (.seq (.reg false [gI 27 (.fadr 2 (.t 8)),gI 28 (.load false 1 (.t 27)),gI 29 (.bin .eql (.t 28) (oI 2))] (kP [0,5,6,7,8,18,19,29] [0,8] [5]))
 (.cond (.t 29)
 (.reg false [gI 30 (.fadr 1 (.t 8)),gN (.store 1 (.t 30) (oI 0))] (kP [0,5,6,7,8,18,19] [0,8] [5]))
 .skip))
 (.seq (.reg false [gM 31 5,gI 32 (.load true 3 (.t 8)),gI 33 (.bslice 3 1 [(.t 32)]),gI 34 (.append 45 3 24 (.t 31) (.t 33)),gM 5 34] (kP [0,5,6,7,18,19] [0] [5]))
 (.seq (.reg false [gM 35 6,gM 36 0,gI 37 (.bslice 1 6 [(oI 1),(oI 1),(oI 2),(oI 5),(oI 10),(oI 30)]),gI 38 (.callx (.f 32) [(.t 36),(.t 37)]),gI 39 (.bin .add (.t 35) (.t 38)),gM 6 39] (kP [0,5,6,7,18,19] [0] [5]))
 (.reg false [gM 40 7,gM 41 0,gI 42 (.bslice 1 9 [(oI 0),(oI 0),(oI 1),(oI 1),(oI 2),(oI (-1)),(oI (-1)),(oI (-4)),(oI 6)]),gI 43 (.callx (.f 32) [(.t 41),(.t 42)]),gI 44 (.bin .add (.t 40) (.t 43)),gM 7 44] (kP [0,5,6,7,18,19] [0] [5])))))))
 (.reg false [gI 45 (.bin .add (.t 19) (oI 1)),gM 19 45] (kP [0,5,6,7,18,19] [0] [5]))))))))
 (.seq (.seq (.reg false [gM 46 5,gI 47 (.len (.t 46)),gI 48 (.bin .gtr (.t 47) (oI 0)),gM 49 48,gG 50 49 true (.mv (.t 0)),gG 51 49 true (.callx (.f 33) [(.t 50),(oI 12)]),gI 52 (.pick (.t 49) (.t 51) (.v (.bool false)))] (kP [0,5,52] [0] [5]))
 (.cond (.t 52)
 (.seq (.reg false [gM 53 5,gM 54 0,gM 55 5,gI 56 (.len (.t 55)),gI 57 (.callx (.f 15) [(.t 54),(.t 56)]),gI 58 (.iadr 3 (.t 53) (.t 57)),gM 9 58] (kP [0,5,9] [0] [5]))
 (.seq (.reg false [gM 59 0,gI 60 (.callx (.f 15) [(.t 59),(oI 3)])] (kP [0,5,9,60] [0] [5]))
 (.block 2 (.seq (.reg false [gI 67 (.bin .eql (.t 60) (oI 0)),gM 66 67] (kP [0,5,9,60,66] [0] [5]))
 (.cond (.t 66)
 (.reg true [gM 68 9,gM 69 0,gM 70 9,gI 71 (.nilchk (.t 70)),gI 72 (.fadr 0 (.t 71)),gI 73 (.load false 1 (.t 72)),gI 74 (.bin .sub (.t 73) (oI 40)),gM 75 9,gI 76 (.nilchk (.t 75)),gI 77 (.fadr 0 (.t 76)),gI 78 (.load false 1 (.t 77)),gI 79 (.bin .add (.t 78) (oI 3)),gI 80 (.bslice 1 4 [(.t 74),(oI (-1)),(oI 345686400000),(.t 79)]),gI 81 (.callx (.f 32) [(.t 69),(.t 80)]),gI 82 (.nilchk (.t 68)),gI 83 (.fadr 0 (.t 82)),gN (.store 1 (.t 83) (.t 81))] (kP [5] [0] []))
 (.seq (.reg false [gI 85 (.bin .eql (.t 60) (oI 1)),gM 84 85] (kP [0,5,9,84] [0] [5]))
 (.cond (.t 84)
 (.reg false [gM 86 9,gM 87 0,gI 88 (.callx (.f 34) [(.t 87),(oI (-1000000)),(oI 1000000)]),gI 89 (.nilchk (.t 86)),gI 90 (.fadr 1 (.t 89)),gN (.store 1 (.t 90) (.t 88))] (kP [5] [0] []))
 (.reg false [gM 61 9,gM 62 0,gI 63 (.callx (.f 34) [(.t 62),(oI 0),(oI 2)]),gI 64 (.nilchk (.t 61)),gI 65 (.fadr 2 (.t 64)),gN (.store 1 (.t 65) (.t 63))] (kP [5] [0] [])))))))))
 .skip))
 (.seq (.reg false [gM 91 5,gM 4 91] (kP [4] [0] []))
 .ret))))))
theorem fc_curve : FcT Try.prog 13 Try.f13 C_curve [.t 4] := fc_mk [aN [0,1] [0] [],⟨(kP [0,1,5] [0] []),[(5,45,3)],[],[],[]⟩,aN [0,1,5,6,7] [0] [5],aN [0,5,6,7,18,19] [0] [5],aN [0,5,6,7,18,19,20] [0] [5],aN [0,5,6,7,8,18,19] [0,8] [5],aN [0,5,6,7,8,18,19,29] [0,8] [5],aN [0,5,6,7,8,18,19] [0,8] [5],aN [0,5,6,7,18,19] [0] [5],aN [0,5,6,7,18,19] [0] [5],aN [0,5,6,7,18,19] [0] [5],aN [0,5,6,7,18,19] [0] [5],aN [0,5,52] [0] [5],aN [0,5,9] [0] [5],aN [0,5,9,60] [0] [5],aN [0,5,9,60,66] [0] [5],aN [5] [0] [],aN [0,5,9,84] [0] [5],aN [5] [0] [],aN [5] [0] [],aN [4] [0] []] Try.func13 (by kernel_rfl)
structure CurveX where
 i : Int
 a : Int
 v : Int
 p : Int
 l : List Smp
def curveSt (L : List Int) (n : Int) (x : CurveX) : AS :=
 ⟨tabV [(0, .one (.bx 0 0)), (5, .one (.ow 5 0)), (6, iv x.a), (7, iv x.v), (18, iv n), (19, iv x.i)], tabO [(0, strm L x.p)], tabO [(5, ⟨0, 45, 3, x.l.map smpC⟩)]⟩
theorem curve_fc (most : Int) (hm : 0 ≤ most) (hm2 : most ≤ 1000) : Gen Try.prog 13 [iv most] 4000 (fun r => ∃ l : List Smp, l.length ≤ most ∧ (∀ x ∈ l, x.in64) ∧ r = smps true l) := by
 intro L p hL hl h0 hp
 refine fc_curve (by simp +arith) ?_
 unfold C_curve strm
 simp (maxSteps := 1000000) (disch := omega) only [go_sem]
 refine callx_gen (pick_fc false [0, 0, 5, 40] (by simp) (by simp)) hL hl h0 (by omega) ⟨_, 0, by simp, rfl⟩ ?_
 rintro p1 r h1 h2 ⟨x, hx, rfl⟩
 refine ⟨rfl, ?_⟩
 unfold strm
 simp only [List.mem_cons, List.not_mem_nil, or_false] at hx
 simp (maxSteps := 1000000) (disch := omega) only [go_sem]
 refine callx_gen (pick_fc false [0, 5, 10, -3] (by simp) (by simp)) hL hl (by omega) (by omega) ⟨_, 0, by simp, rfl⟩ ?_
 rintro p2 r h3 h4 ⟨y, hy, rfl⟩
 refine ⟨rfl, ?_⟩
 unfold strm
 simp only [List.mem_cons, List.not_mem_nil, or_false] at hy
 simp (maxSteps := 1000000) (disch := omega) only [go_sem]
 refine callx_gen (range_fc 0 most (by omega) (by omega) (by omega)) hL hl (by omega) (by omega) ⟨_, 0, by omega, by omega, rfl⟩ ?_
 rintro p3 r h5 h6 ⟨n, hn, hn2, rfl⟩
 refine ⟨rfl, ?_⟩
 unfold strm
 simp (maxSteps := 1000000) (disch := omega) only [go_sem]
 refine ex_loopI (curveSt L n) (fun x => 0 ≤ x.i ∧ x.i ≤ n ∧ x.l.length = x.i ∧ p ≤ x.p ∧ x.p ≤ p + 3 + 3 * x.i ∧ -100 * x.i - 100 ≤ x.a ∧ x.a ≤ 100 * x.i + 100 ∧ -100 * x.i - 100 ≤ x.v ∧ x.v ≤ 100 * x.i + 100 ∧ ∀ z ∈ x.l, -200000 ≤ z.a ∧ z.a ≤ 200000 ∧ -200000 ≤ z.v ∧ z.v ≤ 200000 ∧ 0 ≤ z.q ∧ z.q ≤ 2) (fun x => (n - x.i).toNat) ⟨0, x, y, p3, []⟩ ⟨by simp, by simp; omega, by simp, by simp; omega, by simp; omega, by simp; omega, by simp; omega, by simp; omega, by simp; omega, by simp⟩ rfl ?_
 rintro ⟨i, a, v, q, l⟩ ⟨g1, g2, g3, g4, g5, g6, g7, g8, g9, g10⟩
 simp only at g1 g2 g3 g4 g5 g6 g7 g8 g9 g10
 unfold curveSt strm
 simp (maxSteps := 1000000) (disch := omega) only [go_sem]
 refine ⟨fun hi => ?_, fun hi => ?_⟩
 ·
  refine callx_gen (pick_fc false [0, 0, 0, 0, 0, 1, 2] (by simp) (by simp)) hL hl (by omega) (by omega) ⟨_, 0, by simp, rfl⟩ ?_
  rintro pa r haa hba ⟨za, hza, rfl⟩
  refine ⟨rfl, ?_⟩
  unfold strm
  simp only [List.mem_cons, List.not_mem_nil, or_false] at hza
  simp (maxSteps := 1000000) (disch := omega) only [go_sem]
  refine ⟨fun hq => ?_, fun hq => ?_⟩
  ·
   refine callx_gen (pick_fc false [1, 1, 2, 5, 10, 30] (by simp) (by simp)) hL hl (by omega) (by omega) ⟨_, 1, by simp, rfl⟩ ?_
   rintro pb r hab hbb ⟨zb, hzb, rfl⟩
   refine ⟨rfl, ?_⟩
   unfold strm
   simp only [List.mem_cons, List.not_mem_nil, or_false] at hzb
   simp (maxSteps := 1000000) (disch := omega) only [go_sem]
   refine callx_gen (pick_fc false [0, 0, 1, 1, 2, -1, -1, -4, 6] (by simp) (by simp)) hL hl (by omega) (by omega) ⟨_, 0, by simp, rfl⟩ ?_
   rintro pc r hac hbc ⟨zc, hzc, rfl⟩
   refine ⟨rfl, ?_⟩
   unfold strm
   simp only [List.mem_cons, List.not_mem_nil, or_false] at hzc
   simp (maxSteps := 1000000) (disch := omega) only [go_sem]
   refine ⟨⟨i + 1, a + zb, v + zc, pc, l ++ [⟨a, 0, za⟩]⟩, ⟨by simp; omega, by simp; omega, by simp; omega, by simp; omega, by simp; omega, by simp; omega, by simp; omega, by simp; omega, by simp; omega, ?_⟩, by simp [curveSt, strm, smpC_eq], by simp; omega⟩
   intro z hz
   simp only [List.mem_append, List.mem_cons, List.not_mem_nil, or_false] at hz
   rcases hz with hz | rfl
   ·exact g10 z hz
   ·simp only; omega
  ·
   refine callx_gen (pick_fc false [1, 1, 2, 5, 10, 30] (by simp) (by simp)) hL hl (by omega) (by omega) ⟨_, 1, by simp, rfl⟩ ?_
   rintro pb r hab hbb ⟨zb, hzb, rfl⟩
   refine ⟨rfl, ?_⟩
   unfold strm
   simp only [List.mem_cons, List.not_mem_nil, or_false] at hzb
   simp (maxSteps := 1000000) (disch := omega) only [go_sem]
   refine callx_gen (pick_fc false [0, 0, 1, 1, 2, -1, -1, -4, 6] (by simp) (by simp)) hL hl (by omega) (by omega) ⟨_, 0, by simp, rfl⟩ ?_
   rintro pc r hac hbc ⟨zc, hzc, rfl⟩
   refine ⟨rfl, ?_⟩
   unfold strm
   simp only [List.mem_cons, List.not_mem_nil, or_false] at hzc
   simp (maxSteps := 1000000) (disch := omega) only [go_sem]
   refine ⟨⟨i + 1, a + zb, v + zc, pc, l ++ [⟨a, v, za⟩]⟩, ⟨by simp; omega, by simp; omega, by simp; omega, by simp; omega, by simp; omega, by simp; omega, by simp; omega, by simp; omega, by simp; omega, ?_⟩, by simp [curveSt, strm, smpC_eq], by simp; omega⟩
   intro z hz
   simp only [List.mem_append, List.mem_cons, List.not_mem_nil, or_false] at hz
   rcases hz with hz | rfl
   ·exact g10 z hz
   ·simp only; omega
 ·have g11 : ∀ z ∈ l, z.in64 := fun z hz => by have := g10 z hz; unfold Smp.in64 I64; omega
  refine ⟨fun hlen => ?_, fun hlen => ?_⟩
  ·
   refine callx_gen (flip_fc 12 (by omega) (by omega)) hL hl (by omega) (by omega) ⟨_, true, rfl⟩ ?_
   rintro pd r had hbd ⟨bd, rfl⟩
   refine ⟨rfl, ?_⟩
   unfold strm
   simp (maxSteps := 1000000) (disch := omega) only [go_sem]
   refine ⟨fun hb => ?_, fun hb => ?_⟩
   ·
    refine callx_gen (next_fc l.length (by omega) (by omega)) hL hl (by omega) (by omega) ⟨_, 0, by omega, by omega, rfl⟩ ?_
    rintro pe r hae hbe ⟨ze, hze, hye, rfl⟩
    refine ⟨rfl, ?_⟩
    unfold strm
    simp (maxSteps := 1000000) (disch := omega) only [go_sem]
    refine callx_gen (next_fc 3 (by omega) (by omega)) hL hl (by omega) (by omega) ⟨_, 0, by omega, by omega, rfl⟩ ?_
    rintro pf r haf hbf ⟨zf, hzf, hyf, rfl⟩
    refine ⟨rfl, ?_⟩
    unfold strm
    simp (maxSteps := 1000000) (disch := omega) only [go_sem]
    have gy := g11 _ (getD_mem l ze.toNat (by omega))
    refine ⟨fun hf => ?_, fun hf => ⟨fun hf' => ?_, fun hf' => ?_⟩⟩
    ·
     refine callx_gen (pick_fc false [IntKind.i64.wrap ((l.getD ze.toNat default).a - 40), -1, 345686400000, IntKind.i64.wrap ((l.getD ze.toNat default).a + 3)] (by simp) (by simp)) hL hl (by omega) (by omega) ⟨_, (-1), by simp, rfl⟩ ?_
     rintro pg r hag hbg ⟨zg, hzg, rfl⟩
     refine ⟨rfl, ?_⟩
     unfold strm
     simp only [List.mem_cons, List.not_mem_nil, or_false] at hzg
     simp (maxSteps := 1000000) (disch := omega) only [go_sem]
     have hg : I64 zg := by
      have w1 := wrap_in ((l.getD ze.toNat default).a - 40)
      have w2 := wrap_in ((l.getD ze.toNat default).a + 3)
      unfold I64 at *; omega
     refine ⟨⟨pg, by omega, by omega, rfl⟩, l.set ze.toNat ⟨zg, (l.getD ze.toNat default).v, (l.getD ze.toNat default).q⟩, by simp; omega, fun x hx => ?_, by simp [smps, smpC_eq, List.map_set, frE_set, frE_smp, freshC]⟩
     rcases List.mem_or_eq_of_mem_set hx with hx | rfl
     ·exact g11 x hx
     ·exact ⟨hg, gy.2.1, gy.2.2⟩
    ·
     refine callx_gen (odd_fc (-1000000) 1000000 (by omega) (by omega) (by omega)) hL hl (by omega) (by omega) ⟨_, 0, by simp [I64], rfl⟩ ?_
     rintro pg r hag hbg ⟨zg, hzg, rfl⟩
     refine ⟨rfl, ?_⟩
     unfold strm
     simp (maxSteps := 1000000) (disch := omega) only [go_sem]
     refine ⟨⟨pg, by omega, by omega, rfl⟩, l.set ze.toNat ⟨(l.getD ze.toNat default).a, zg, (l.getD ze.toNat default).q⟩, by simp; omega, fun x hx => ?_, by simp [smps, smpC_eq, List.map_set, frE_set, frE_smp, freshC]⟩
     rcases List.mem_or_eq_of_mem_set hx with hx | rfl
     ·exact g11 x hx
     ·exact ⟨gy.1, hzg, gy.2.2⟩
    ·
     refine callx_gen (odd_fc 0 2 (by omega) (by omega) (by omega)) hL hl (by omega) (by omega) ⟨_, 0, by simp [I64], rfl⟩ ?_
     rintro pg r hag hbg ⟨zg, hzg, rfl⟩
     refine ⟨rfl, ?_⟩
     unfold strm
     simp (maxSteps := 1000000) (disch := omega) only [go_sem]
     refine ⟨⟨pg, by omega, by omega, rfl⟩, l.set ze.toNat ⟨(l.getD ze.toNat default).a, (l.getD ze.toNat default).v, zg⟩, by simp; omega, fun x hx => ?_, by simp [smps, smpC_eq, List.map_set, frE_set, frE_smp, freshC]⟩
     rcases List.mem_or_eq_of_mem_set hx with hx | rfl
     ·exact g11 x hx
     ·exact ⟨gy.1, gy.2.1, hzg⟩
   ·exact ⟨⟨pd, by omega, by omega, rfl⟩, l, by omega, g11, rfl⟩
  ·exact ⟨⟨q, by omega, by omega, rfl⟩, l, by omega, g11, rfl⟩
end Go.Proofs.Ytiiblflmfadmbaa

/-
  What is common to the functions that draw numbers from a stream: how their contracts read, and how a call of one is met.
-/
import Derived.Test.YtggbcgldnjmobaaDoorAiEval
namespace Go.Ai
open Go
set_option linter.unusedSimpArgs false
set_option linter.unusedVariables false

def intC (n : Int) : List Cel := [.g (.int .i64 n)]
abbrev ints (fr : Bool) (l : List Int) : Val := .one (.sl fr 1 (l.map intC))
/-- In the range of Go's int. -/
def I64 (n : Int) : Prop := -9223372036854775808 ≤ n ∧ n ≤ 9223372036854775807
/-- The box of a stream. -/
def strm (L : List Int) (at_ : Int) : List Cel := [.sl false 1 (L.map intC), .g (.int .i64 at_)]
theorem strm_eq (L : List Int) (at_ : Int) : strm L at_ = [.sl false 1 (L.map intC), .g (.int .i64 at_)] := (rfl)

/-- f draws at most n numbers and hands back an R. -/
def Gen (P : Program) (f : FuncId) (args : List Val) (n : Nat) (R : Val → Prop) : Prop :=
  ∀ (L : List Int) (p : Int), (∀ x ∈ L, I64 x) → L.length ≤ 9223372036854775807 → 0 ≤ p → p + n ≤ 4611686018427387904 →
    FC P f (some (strm L p)) args fun cs r => (∃ p', p ≤ p' ∧ p' ≤ p + n ∧ cs = strm L p') ∧ R r

theorem wrap_in (n : Int) : I64 (IntKind.i64.wrap n) := by
  unfold I64
  rw [IntKind.wrap_i64]
  omega

theorem and_then {p q : Prop} (hp : p) (hq : p → q) : p ∧ q := ⟨hp, hq hp⟩
theorem getD_map_in {α β : Type} [Inhabited α] (f : α → β) (l : List α) (i : Nat) (d : β) (h : i < l.length) : (l.map f).getD i d = f (l.getD i default) := by
  simp [List.getD_eq_getElem?_getD, h]
theorem getD_mem {α : Type} [Inhabited α] (l : List α) (i : Nat) (h : i < l.length) : l.getD i default ∈ l := by
  simp [List.getD_eq_getElem?_getD, h]
theorem intC_eq (n : Int) : intC n = [.g (.int .i64 n)] := (rfl)
attribute [go_sem] getD_map_in List.length_map intC_eq

variable {P : Program} {Q : AX → AS → Prop} {s : AS} {k : List KI} {kp : Option Keep} {l : List GI}
theorem callx_gen {f : FuncId} {args : List Val} {n : Nat} {R : Val → Prop} {L : List Int} {p : Int} {key : Nat} {d : Option Nat} (h : Gen P f args n R) (hL : ∀ x ∈ L, I64 x) (hl : L.length ≤ 9223372036854775807) (h0 : 0 ≤ p) (hn : p + n ≤ 4611686018427387904)
    (hne : ∃ r, R r) (hk : ∀ p' r, p ≤ p' → p' ≤ p + n → R r → dataRV r = true ∧ rg P l kp k Q ({ s with bx := upd s.bx key (some (strm L p')) }.put d r)) :
    CALLX P f key (strm L p) args d l kp k Q s := by
  obtain ⟨r0, hr0⟩ := hne
  refine ⟨_, h L p hL hl h0 hn, ⟨_, r0, ⟨p, Int.le_refl _, by omega, rfl⟩, hr0⟩, ?_⟩
  rintro cs r ⟨⟨p', h1, h2, rfl⟩, hr⟩
  obtain ⟨h3, h4⟩ := hk p' r h1 h2 hr
  exact ⟨h3, rfl, h4⟩
theorem getE_map_in {α β : Type} [Inhabited α] (f : α → β) (l : List α) (i : Nat) (h : i < l.length) : (l.map f)[i]? = some (f (l.getD i default)) := by
  simp [List.getD_eq_getElem?_getD, h]
theorem map_snoc {α β : Type} (f : α → β) (l : List α) (x : α) : l.map f ++ [f x] = (l ++ [x]).map f := by simp
attribute [go_sem] getE_map_in Bool.not_eq_true' Bool.not_eq_false'
theorem iv_congr {a b : Int} (h : a = b) : Val.one (.g (.int .i64 a)) = iv b := by rw [h]
theorem bv_congr {a b : Bool} (h : a = true ↔ b = true) : Val.one (.g (.bool a)) = bv b := by
  have : a = b := by cases a <;> cases b <;> simp_all
  rw [this]
theorem bv_dec {p q : Prop} [Decidable p] [Decidable q] (h : p ↔ q) : Val.one (.g (.bool (decide p))) = bv (decide q) := by simp [h]
theorem bv_ndec {p q : Prop} [Decidable p] [Decidable q] (h : ¬p ↔ q) : Val.one (.g (.bool (!decide p))) = bv (decide q) := by simp [← h]
theorem bv_f {q : Prop} [Decidable q] (h : ¬q) : Val.one (.g (.bool false)) = bv (decide q) := by simp [h]
theorem bv_t {q : Prop} [Decidable q] (h : q) : Val.one (.g (.bool true)) = bv (decide q) := by simp [h]

/-- A sample: its moment, value and quality. -/
structure Smp where
  a : Int
  v : Int
  q : Int
  deriving Inhabited
def smpC (x : Smp) : List Cel := [.g (.int .i64 x.a), .g (.int .i64 x.v), .g (.int .i64 x.q)]
theorem smpC_eq (x : Smp) : smpC x = [.g (.int .i64 x.a), .g (.int .i64 x.v), .g (.int .i64 x.q)] := (rfl)
attribute [go_sem] smpC_eq
def Smp.in64 (x : Smp) : Prop := I64 x.a ∧ I64 x.v ∧ I64 x.q
abbrev smps (fr : Bool) (l : List Smp) : Val := .one (.sl fr 3 (l.map smpC))
theorem frE_map {α : Type} {f : α → List Cel} (h : ∀ x, (f x).all freshC = true) (l : List α) : frE (l.map f) = true := by
  simp only [frE, List.all_eq_true, List.mem_map]
  rintro e ⟨x, _, rfl⟩
  exact List.all_eq_true.1 (h x)
theorem datE_map {α : Type} {f : α → List Cel} (h : ∀ x, (f x).map Cel.dat = f x) (l : List α) : datE (l.map f) = l.map f := by simp [datE, Function.comp_def, h]
theorem tofE_map {α : Type} {f : α → List Cel} (h : ∀ x, (f x).map Cel.tof = f x) (l : List α) : tofE (l.map f) = l.map f := by simp [tofE, Function.comp_def, h]
theorem frE_set {es : List (List Cel)} {e : List Cel} {i : Nat} (h : frE es = true) (he : e.all freshC = true) : frE (es.set i e) = true := by
  simp only [frE, List.all_eq_true] at *
  intro x hx
  rcases List.mem_or_eq_of_mem_set hx with h1 | rfl
  · exact h x h1
  · exact he
theorem frE_int (l : List Int) : frE (l.map intC) = true := frE_map (fun _ => rfl) l
theorem datE_int (l : List Int) : datE (l.map intC) = l.map intC := datE_map (fun _ => rfl) l
theorem tofE_int (l : List Int) : tofE (l.map intC) = l.map intC := tofE_map (fun _ => rfl) l
theorem frE_smp (l : List Smp) : frE (l.map smpC) = true := frE_map (fun _ => rfl) l
theorem datE_smp (l : List Smp) : datE (l.map smpC) = l.map smpC := datE_map (fun _ => rfl) l
theorem tofE_smp (l : List Smp) : tofE (l.map smpC) = l.map smpC := tofE_map (fun _ => rfl) l
attribute [go_sem] frE_int datE_int tofE_int frE_smp datE_smp tofE_smp
end Go.Ai

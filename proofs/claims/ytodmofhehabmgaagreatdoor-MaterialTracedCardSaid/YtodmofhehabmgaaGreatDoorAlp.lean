/-
 Strings: their order, strings.Compare.
 Alarms, series of tags and acts: what is wrong with them. Plain Lean.
 Series of tags and acts: what is wrong with them. Plain Lean.
 Where a key stands in a list that is in order. Plain Lean.
-/
import Derived.Test.YtodmofhehabmgaaGreatDoorKey
import Derived.Lib.MinMaxS
import Derived.Test.YtodmofhehabmgaaGreatDoorAct
namespace Go.Proofs.YtodmofhehabmgaaGreatDoor
open Go Go.Ai
set_option linter.unusedSimpArgs false
set_option linter.unusedVariables false
set_option maxHeartbeats 4000000
/-- One string comes before another one. -/
def ltS (a b : ByteArray) : Prop := a.data.toList < b.data.toList
instance (a b : ByteArray) : Decidable (ltS a b) := inferInstanceAs (Decidable (a.data.toList < b.data.toList))
def cmpS (a b : ByteArray) : Int := Lib.compareBytes a.data.toList b.data.toList
theorem ba_ext {a b : ByteArray} (h : a.data.toList = b.data.toList) : a = b := by
 cases a with | mk a => cases b with | mk b => exact congrArg ByteArray.mk (Array.ext' h)
theorem ltS_irr (a : ByteArray) : ¬ltS a a := List.lt_irrefl _
theorem ltS_trans {a b c : ByteArray} (h1 : ltS a b) (h2 : ltS b c) : ltS a c := List.lt_trans h1 h2
theorem ltS_asymm {a b : ByteArray} (h1 : ltS a b) : ¬ltS b a := fun h2 => ltS_irr a (ltS_trans h1 h2)
theorem cmpL {a b : List UInt8} : (Lib.compareBytes a b = 0 ∧ a = b) ∨ (Lib.compareBytes a b = -1 ∧ a < b) ∨ (Lib.compareBytes a b = 1 ∧ b < a) := by
 induction a generalizing b with
 | nil => cases b with
  | nil => exact .inl ⟨rfl, rfl⟩
  | cons y b => exact .inr (.inl ⟨rfl, List.nil_lt_cons _ _⟩)
 | cons x a ih => cases b with
  | nil => exact .inr (.inr ⟨rfl, List.nil_lt_cons _ _⟩)
  | cons y b =>
   rw [Lib.compareBytes]
   by_cases h1 : x < y
   ·rw [if_pos h1]; exact .inr (.inl ⟨rfl, List.cons_lt_cons_iff.2 (.inl h1)⟩)
   ·rw [if_neg h1]
    by_cases h2 : y < x
    ·rw [if_pos h2]; exact .inr (.inr ⟨rfl, List.cons_lt_cons_iff.2 (.inl h2)⟩)
    ·rw [if_neg h2]
     have e : x = y := UInt8.le_antisymm (UInt8.not_lt.1 h2) (UInt8.not_lt.1 h1)
     subst e
     rcases ih (b := b) with ⟨h, rfl⟩ | ⟨h, h3⟩ | ⟨h, h3⟩
     ·exact .inl ⟨h, rfl⟩
     ·exact .inr (.inl ⟨h, List.cons_lt_cons_iff.2 (.inr ⟨rfl, h3⟩)⟩)
     ·exact .inr (.inr ⟨h, List.cons_lt_cons_iff.2 (.inr ⟨rfl, h3⟩)⟩)
theorem cmpS_is (a b : ByteArray) : (cmpS a b = 0 ∧ a = b) ∨ (cmpS a b = -1 ∧ ltS a b) ∨ (cmpS a b = 1 ∧ ltS b a) := by
 rcases cmpL (a := a.data.toList) (b := b.data.toList) with ⟨h, h2⟩ | h | h
 ·exact .inl ⟨h, ba_ext h2⟩
 ·exact .inr (.inl h)
 ·exact .inr (.inr h)
theorem bl_eq (a b : ByteArray) : Op.bytesLess a.toList b.toList = decide (ltS a b) := by
 rw [ByteArray.toList_eq, ByteArray.toList_eq, Proofs.bytesLess_eq]; rfl
theorem te_eq (a b : ByteArray) : (a.toList == b.toList) = decide (a = b) := by
 rw [ByteArray.toList_eq, ByteArray.toList_eq]
 by_cases h : a = b
 ·subst h; simp
 ·rw [decide_eq_false h]
  exact Bool.eq_false_iff.2 fun h2 => h (ba_ext (beq_iff_eq.1 h2))
theorem dec_or {p q : Prop} [Decidable p] [Decidable q] : (decide p || decide q) = decide (p ∨ q) := by simp
attribute [go_sem] bl_eq te_eq dec_or
set_option maxRecDepth 100000 in
theorem bytealgCompare (a b : ByteArray) (w : World) :
  Calls Tryz.prog 132 #[.string a, .string b] w fun e w' => e = .returned (.int .i64 (Lib.compareBytes a.data.toList b.data.toList)) ∧ w' = w := by
 go_enter Tryz.func132, Tryz.ntmps132
 go_wp2
 rw [run_callFunc_extern Tryz.func164 (by kernel_rfl) (by kernel_rfl) (by kernel_rfl) (e := Extern.BytealgCompare.compare) (by kernel_rfl), Lib.run_compareString]
 simp only [Result.andThen]
 rw [Oper.upon_value]
 go_wp2
 go_ret
 exact ⟨rfl, rfl⟩
theorem stringsCompare (a b : ByteArray) (w : World) :
  Calls Tryz.prog 88 #[.string a, .string b] w fun e w' => e = .returned (.int .i64 (Lib.compareBytes a.data.toList b.data.toList)) ∧ w' = w := by
 go_enter Tryz.func88, Tryz.ntmps88
 go_wp2_with (go_at_call 132; refine (bytealgCompare _ _ _).mono ?_; rintro e w' ⟨rfl, rfl⟩)
 go_ret
 exact ⟨rfl, rfl⟩
theorem cmpS_fc (a b : ByteArray) : FC Tryz.prog 88 none [sv a, sv b] (fun _ r => r = iv (cmpS a b)) :=
 fc_data [.string a, .string b] ⟨Tryz.f88, Tryz.func88, by kernel_rfl, by kernel_rfl⟩ rfl fun w => stringsCompare a b w
end Go.Proofs.YtodmofhehabmgaaGreatDoor
namespace Go.Proofs.YtodmofhehabmgaaGreatDoor
open Go Go.Ai
set_option linter.unusedSimpArgs false
set_option linter.unusedVariables false
set_option maxHeartbeats 4000000
structure Alm where
 k : ByteArray
 t : ByteArray
 kd : Int
 lim : Int
 db : Int
 on : Int
 off : Int
 pr : Int
 lt : Bool
 p : ByteArray
abbrev emp : ByteArray := ByteArray.mk #[]
instance : Inhabited Alm := ⟨⟨emp, emp, 0, 0, 0, 0, 0, 0, false, emp⟩⟩
def almS (x : Alm) : List Cel := almC x.k x.t x.p x.lt x.kd x.lim x.db x.on x.off x.pr
theorem almS_eq (x : Alm) : almS x = [.g (.string x.k), .g (.string x.t), .g (.int .i64 x.kd), .g (.int .i64 x.lim), .g (.int .i64 x.db), .g (.int .i64 x.on), .g (.int .i64 x.off), .g (.int .i64 x.pr), .g (.bool x.lt), .g (.string x.p)] := (rfl)
attribute [go_sem] almS_eq
/-- Its strings are not long. -/
def Alm.sm (x : Alm) : Prop := x.k.size ≤ 1000 ∧ x.t.size ≤ 1000 ∧ x.p.size ≤ 1000
/-! ### numbers -/
theorem idxG_rng {α : Type} (p : α → Bool) : ∀ (l : List α) (i : Int), idxG p i l = -1 ∨ (i ≤ idxG p i l ∧ idxG p i l < i + l.length)
 | [], i => .inl rfl
 | x :: l, i => by
  rw [idxG]
  split
  ·right; simp; omega
  ·rcases idxG_rng p l (i + 1) with h | h
   ·exact .inl h
   ·right; simp; omega
theorem idxG_at {α : Type} [Inhabited α] (p : α → Bool) : ∀ (l : List α) (i : Int), 0 ≤ i → 0 ≤ idxG p i l → p (l.getD (idxG p i l - i).toNat default) = true
 | [], i, h0, h => by rw [idxG] at h; omega
 | x :: l, i, h0, h => by
  rw [idxG] at h ⊢
  split
  ·rename_i hx
   rw [show (i - i).toNat = 0 by omega]; exact hx
  ·rename_i hx
   rw [if_neg hx] at h
   have hr := idxG_rng p l (i + 1)
   have := idxG_at p l (i + 1) (by omega) h
   rw [show (idxG p (i + 1) l - i).toNat = (idxG p (i + 1) l - (i + 1)).toNat + 1 by omega]
   exact this
/-! ### what the reference lets by the program lets by -/
end Go.Proofs.YtodmofhehabmgaaGreatDoor
namespace Go.Proofs.YtodmofhehabmgaaGreatDoor
open Go Go.Ai
set_option linter.unusedSimpArgs false
set_option linter.unusedVariables false
set_option maxHeartbeats 4000000
structure Ser where
 t : ByteArray
 l : List Smp
instance : Inhabited Ser := ⟨⟨emp, []⟩⟩
def serS (fr : Bool) (x : Ser) : List Cel := [.g (.string x.t), .sl fr 3 (x.l.map smpC)]
theorem serS_eq (fr : Bool) (x : Ser) : serS fr x = [.g (.string x.t), .sl fr 3 (x.l.map smpC)] := (rfl)
attribute [go_sem] serS_eq
structure Opr where
 b : ByteArray
 no : Int
 at_ : Int
 kd : Int
 al : ByteArray
 un : Int
instance : Inhabited Opr := ⟨⟨emp, 0, 0, 0, emp, 0⟩⟩
def oprS (x : Opr) : List Cel := [.g (.string x.b), .g (.int .i64 x.no), .g (.int .i64 x.at_), .g (.int .i64 x.kd), .g (.string x.al), .g (.int .i64 x.un)]
theorem oprS_eq (x : Opr) : oprS x = [.g (.string x.b), .g (.int .i64 x.no), .g (.int .i64 x.at_), .g (.int .i64 x.kd), .g (.string x.al), .g (.int .i64 x.un)] := (rfl)
attribute [go_sem] oprS_eq
end Go.Proofs.YtodmofhehabmgaaGreatDoor
namespace Go.Proofs.YtodmofhehabmgaaGreatDoor
open Go Go.Ai
set_option linter.unusedSimpArgs false
set_option linter.unusedVariables false
set_option maxHeartbeats 4000000
section
variable {α : Type} [Inhabited α] {f : α → ByteArray} {l : List α} {key : ByteArray}
theorem idxG_no (p : α → Bool) : ∀ (l : List α) (k : Int), (∀ j, j < l.length → p (l.getD j default) = false) → idxG p k l = -1
 | [], k, _ => rfl
 | x :: l, k, h => by
  have hx : p x = false := by simpa using h 0 (by simp)
  rw [idxG, if_neg (by simp [hx])]
  exact idxG_no p l (k + 1) fun j hj => by simpa using h (j + 1) (by simpa using hj)
end
/-! ### right alarms -/
end Go.Proofs.YtodmofhehabmgaaGreatDoor

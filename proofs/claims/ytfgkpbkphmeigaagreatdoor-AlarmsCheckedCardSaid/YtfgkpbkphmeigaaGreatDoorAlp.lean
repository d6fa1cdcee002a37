/-
 Strings: their order, strings.Compare.
 Alarms, series of tags and acts: what is wrong with them. Plain Lean.
 Series of tags and acts: what is wrong with them. Plain Lean.
 Where a key stands in a list that is in order. Plain Lean.
-/
import Derived.Test.YtfgkpbkphmeigaaGreatDoorKey
import Derived.Lib.MinMaxS
import Derived.Test.YtfgkpbkphmeigaaGreatDoorAct
namespace Go.Proofs.YtfgkpbkphmeigaaGreatDoor
open Go Go.Ai
set_option linter.unusedSimpArgs false
set_option linter.unusedVariables false
set_option maxHeartbeats 4000000
/-- One string comes before another one. -/
def ltS (a b : ByteArray) : Prop := a.data.toList < b.data.toList
instance (a b : ByteArray) : Decidable (ltS a b) := inferInstanceAs (Decidable (a.data.toList < b.data.toList))
def cmpS (a b : ByteArray) : Int := Lib.compareBytes a.data.toList b.data.toList
theorem ba_ext {a b : ByteArray} (h : a.data.toList = b.data.toList) : a = b := by
 cases a with | mk a => cases b with | mk b => exact congrArg ByteArray.mk (Array.ext' h)
theorem ltS_irr (a : ByteArray) : ¬ltS a a := List.lt_irrefl _
theorem ltS_trans {a b c : ByteArray} (h1 : ltS a b) (h2 : ltS b c) : ltS a c := List.lt_trans h1 h2
theorem ltS_or (a b : ByteArray) : ltS a b ∨ a = b ∨ ltS b a := by
 rcases Classical.em (a.data.toList < b.data.toList) with h | h
 ·exact .inl h
 ·rcases Classical.em (b.data.toList < a.data.toList) with h2 | h2
  ·exact .inr (.inr h2)
  ·exact .inr (.inl (ba_ext (List.le_antisymm (List.not_lt.1 h2) (List.not_lt.1 h))))
theorem ltS_asymm {a b : ByteArray} (h1 : ltS a b) : ¬ltS b a := fun h2 => ltS_irr a (ltS_trans h1 h2)
theorem cmpL {a b : List UInt8} : (Lib.compareBytes a b = 0 ∧ a = b) ∨ (Lib.compareBytes a b = -1 ∧ a < b) ∨ (Lib.compareBytes a b = 1 ∧ b < a) := by
 induction a generalizing b with
 | nil => cases b with
  | nil => exact .inl ⟨rfl, rfl⟩
  | cons y b => exact .inr (.inl ⟨rfl, List.nil_lt_cons _ _⟩)
 | cons x a ih => cases b with
  | nil => exact .inr (.inr ⟨rfl, List.nil_lt_cons _ _⟩)
  | cons y b =>
   rw [Lib.compareBytes]
   by_cases h1 : x < y
   ·rw [if_pos h1]; exact .inr (.inl ⟨rfl, List.cons_lt_cons_iff.2 (.inl h1)⟩)
   ·rw [if_neg h1]
    by_cases h2 : y < x
    ·rw [if_pos h2]; exact .inr (.inr ⟨rfl, List.cons_lt_cons_iff.2 (.inl h2)⟩)
    ·rw [if_neg h2]
     have e : x = y := UInt8.le_antisymm (UInt8.not_lt.1 h2) (UInt8.not_lt.1 h1)
     subst e
     rcases ih (b := b) with ⟨h, rfl⟩ | ⟨h, h3⟩ | ⟨h, h3⟩
     ·exact .inl ⟨h, rfl⟩
     ·exact .inr (.inl ⟨h, List.cons_lt_cons_iff.2 (.inr ⟨rfl, h3⟩)⟩)
     ·exact .inr (.inr ⟨h, List.cons_lt_cons_iff.2 (.inr ⟨rfl, h3⟩)⟩)
theorem cmpS_is (a b : ByteArray) : (cmpS a b = 0 ∧ a = b) ∨ (cmpS a b = -1 ∧ ltS a b) ∨ (cmpS a b = 1 ∧ ltS b a) := by
 rcases cmpL (a := a.data.toList) (b := b.data.toList) with ⟨h, h2⟩ | h | h
 ·exact .inl ⟨h, ba_ext h2⟩
 ·exact .inr (.inl h)
 ·exact .inr (.inr h)
theorem bl_eq (a b : ByteArray) : Op.bytesLess a.toList b.toList = decide (ltS a b) := by
 rw [ByteArray.toList_eq, ByteArray.toList_eq, Proofs.bytesLess_eq]; rfl
theorem te_eq (a b : ByteArray) : (a.toList == b.toList) = decide (a = b) := by
 rw [ByteArray.toList_eq, ByteArray.toList_eq]
 by_cases h : a = b
 ·subst h; simp
 ·rw [decide_eq_false h]
  exact Bool.eq_false_iff.2 fun h2 => h (ba_ext (beq_iff_eq.1 h2))
theorem dec_or {p q : Prop} [Decidable p] [Decidable q] : (decide p || decide q) = decide (p ∨ q) := by simp
attribute [go_sem] bl_eq te_eq dec_or
set_option maxRecDepth 100000 in
theorem bytealgCompare (a b : ByteArray) (w : World) :
  Calls Tryz.prog 235 #[.string a, .string b] w fun e w' => e = .returned (.int .i64 (Lib.compareBytes a.data.toList b.data.toList)) ∧ w' = w := by
 go_enter Tryz.func235, Tryz.ntmps235
 go_wp2
 rw [run_callFunc_extern Tryz.func305 (by kernel_rfl) (by kernel_rfl) (by kernel_rfl) (e := Extern.BytealgCompare.compare) (by kernel_rfl), Lib.run_compareString]
 simp only [Result.andThen]
 rw [Oper.upon_value]
 go_wp2
 go_ret
 exact ⟨rfl, rfl⟩
theorem stringsCompare (a b : ByteArray) (w : World) :
  Calls Tryz.prog 177 #[.string a, .string b] w fun e w' => e = .returned (.int .i64 (Lib.compareBytes a.data.toList b.data.toList)) ∧ w' = w := by
 go_enter Tryz.func177, Tryz.ntmps177
 go_wp2_with (go_at_call 235; refine (bytealgCompare _ _ _).mono ?_; rintro e w' ⟨rfl, rfl⟩)
 go_ret
 exact ⟨rfl, rfl⟩
theorem cmpS_fc (a b : ByteArray) : FC Tryz.prog 177 none [sv a, sv b] (fun _ r => r = iv (cmpS a b)) :=
 fc_data [.string a, .string b] ⟨Tryz.f177, Tryz.func177, by kernel_rfl, by kernel_rfl⟩ rfl fun w => stringsCompare a b w
end Go.Proofs.YtfgkpbkphmeigaaGreatDoor
namespace Go.Proofs.YtfgkpbkphmeigaaGreatDoor
open Go Go.Ai
set_option linter.unusedSimpArgs false
set_option linter.unusedVariables false
set_option maxHeartbeats 4000000
structure Alm where
 k : ByteArray
 t : ByteArray
 kd : Int
 lim : Int
 db : Int
 on : Int
 off : Int
 pr : Int
 lt : Bool
 p : ByteArray
abbrev emp : ByteArray := ByteArray.mk #[]
instance : Inhabited Alm := ⟨⟨emp, emp, 0, 0, 0, 0, 0, 0, false, emp⟩⟩
def almS (x : Alm) : List Cel := almC x.k x.t x.p x.lt x.kd x.lim x.db x.on x.off x.pr
theorem almS_eq (x : Alm) : almS x = [.g (.string x.k), .g (.string x.t), .g (.int .i64 x.kd), .g (.int .i64 x.lim), .g (.int .i64 x.db), .g (.int .i64 x.on), .g (.int .i64 x.off), .g (.int .i64 x.pr), .g (.bool x.lt), .g (.string x.p)] := (rfl)
attribute [go_sem] almS_eq
abbrev alms (fr : Bool) (l : List Alm) : Val := .one (.sl fr 10 (l.map almS))
def Alm.flt (x : Alm) : Int := almG (keyOk x.k && keyOk x.t) x.kd x.lim x.db x.on x.off x.pr
/-- Its strings are not long. -/
def Alm.sm (x : Alm) : Prop := x.k.size ≤ 1000 ∧ x.t.size ≤ 1000 ∧ x.p.size ≤ 1000
/-- The number of the alarm with a key. -/
def idxA (l : List Alm) (key : ByteArray) : Int := idxG (fun x : Alm => decide (x.k = key)) 0 l
def ordBad : Option ByteArray → ByteArray → Bool
 | none, _ => false
 | some p, k => decide (¬ltS p k)
def afGo : Option ByteArray → List Alm → Int
 | _, [] => 0
 | pv, x :: r => if x.flt ≠ 0 then x.flt else if ordBad pv x.k = true then 7 else afGo (some x.k) r
def noPar (l : List Alm) (x : Alm) : Bool := decide (x.p ≠ emp ∧ idxA l x.p < 0)
/-- The parent of an alarm. -/
def parO (l : List Alm) (x : Alm) : Alm := l.getD (idxA l x.p).toNat default
/-- So many steps lead back to a key. -/
def lpR (l : List Alm) (k : ByteArray) : Nat → Alm → Bool
 | 0, _ => false
 | n + 1, x => if x.p = emp then false else if (parO l x).k = k then true else lpR l k n (parO l x)
def parA (l : List Alm) : Nat → Alm → List Int
 | 0, _ => []
 | n + 1, x => if x.p = emp then [] else idxA l x.p :: parA l n (parO l x)
def afF (l : List Alm) : Int := if l.length > 200 then 2 else if afGo none l ≠ 0 then afGo none l else if l.any (noPar l) = true then 8 else if (l.any fun x => lpR l x.k l.length x) = true then 14 else 0
def caF (l : List Alm) : Int := if l.length > 200 then 2 else if afGo none l ≠ 0 then afGo none l else if l.any (noPar l) = true then 8 else if (l.any fun x => decide ((parA l (l.length + 1) x).length > l.length)) = true then 14 else 0
/-! ### numbers -/
theorem idxG_rng {α : Type} (p : α → Bool) : ∀ (l : List α) (i : Int), idxG p i l = -1 ∨ (i ≤ idxG p i l ∧ idxG p i l < i + l.length)
 | [], i => .inl rfl
 | x :: l, i => by
  rw [idxG]
  split
  ·right; simp; omega
  ·rcases idxG_rng p l (i + 1) with h | h
   ·exact .inl h
   ·right; simp; omega
theorem idxG_at {α : Type} [Inhabited α] (p : α → Bool) : ∀ (l : List α) (i : Int), 0 ≤ i → 0 ≤ idxG p i l → p (l.getD (idxG p i l - i).toNat default) = true
 | [], i, h0, h => by rw [idxG] at h; omega
 | x :: l, i, h0, h => by
  rw [idxG] at h ⊢
  split
  ·rename_i hx
   rw [show (i - i).toNat = 0 by omega]; exact hx
  ·rename_i hx
   rw [if_neg hx] at h
   have hr := idxG_rng p l (i + 1)
   have := idxG_at p l (i + 1) (by omega) h
   rw [show (idxG p (i + 1) l - i).toNat = (idxG p (i + 1) l - (i + 1)).toNat + 1 by omega]
   exact this
theorem idxA_rng (l : List Alm) (k : ByteArray) : idxA l k = -1 ∨ (0 ≤ idxA l k ∧ idxA l k < l.length) := by
 have := idxG_rng (fun x : Alm => decide (x.k = k)) l 0
 unfold idxA; omega
/-- Among more numbers below n than n, two are the same. -/
theorem pigeon : ∀ (n : Nat) (f : Nat → Nat), (∀ i, i ≤ n → f i < n) → ∃ a b, a < b ∧ b ≤ n ∧ f a = f b
 | 0, f, h => by have := h 0 (Nat.le_refl _); omega
 | n + 1, f, h => by
  by_cases hc : ∃ a, a ≤ n ∧ f a = f (n + 1)
  ·obtain ⟨a, ha, he⟩ := hc
   exact ⟨a, n + 1, by omega, Nat.le_refl _, he⟩
  ·have hne : ∀ a, a ≤ n → f a ≠ f (n + 1) := fun a ha he => hc ⟨a, ha, he⟩
   obtain ⟨a, b, h1, h2, h3⟩ := pigeon n (fun i => if f i < f (n + 1) then f i else f i - 1) (fun i hi => by
    have h4 := h i (by omega)
    have h5 := h (n + 1) (Nat.le_refl _)
    have h6 := hne i hi
    split <;> omega)
   refine ⟨a, b, h1, by omega, ?_⟩
   have h6 := hne a (by omega)
   have h7 := hne b h2
   split at h3 <;> split at h3 <;> omega
/-! ### what the reference lets by the program lets by -/
def itr (l : List Alm) : Nat → Alm → Alm
 | 0, x => x
 | n + 1, x => itr l n (parO l x)
theorem itr_succ (l : List Alm) : ∀ (n : Nat) (x : Alm), itr l (n + 1) x = parO l (itr l n x)
 | 0, x => rfl
 | n + 1, x => by rw [itr, itr_succ l n, ← itr]
theorem itr_add (l : List Alm) : ∀ (m n : Nat) (x : Alm), itr l (m + n) x = itr l n (itr l m x)
 | 0, n, x => by rw [Nat.zero_add]; rfl
 | m + 1, n, x => by rw [show m + 1 + n = (m + n) + 1 by omega, itr, itr, itr_add l m n]
theorem parA_p (l : List Alm) : ∀ (n : Nat) (x : Alm), (parA l n x).length = n → ∀ j, j < n → (itr l j x).p ≠ emp
 | 0, x, _, j, hj => by omega
 | n + 1, x, h, j, hj => by
  rw [parA] at h
  by_cases c : x.p = emp
  ·rw [if_pos c] at h; simp at h
  ·rw [if_neg c, List.length_cons] at h
   cases j with
   | zero => exact c
   | succ j => rw [itr]; exact parA_p l n _ (by omega) j (by omega)
theorem parA_len (l : List Alm) : ∀ (n : Nat) (x : Alm), (parA l n x).length ≤ n
 | 0, x => Nat.le_refl _
 | n + 1, x => by
  rw [parA]
  split
  ·simp
  ·have := parA_len l n (parO l x); simp; omega
theorem lpR_of (l : List Alm) (k : ByteArray) : ∀ (n j : Nat) (x : Alm), j < n → (∀ i, i ≤ j → (itr l i x).p ≠ emp) → (itr l (j + 1) x).k = k → lpR l k n x = true
 | 0, j, x, h, _, _ => by omega
 | n + 1, j, x, h, hp, hk => by
  have h0 : x.p ≠ emp := hp 0 (by omega)
  rw [lpR, if_neg h0]
  cases j with
  | zero =>
   have h1 : (parO l x).k = k := hk
   rw [if_pos h1]
  | succ j =>
   split
   ·rfl
   ·exact lpR_of l k n j (parO l x) (by omega) (fun i hi => hp (i + 1) (by omega)) hk
theorem caF_of {l : List Alm} (h : afF l = 0) : caF l = 0 := by
 unfold afF at h
 unfold caF
 by_cases c1 : l.length > 200
 ·rw [if_pos c1] at h; omega
 rw [if_neg c1] at h ⊢
 by_cases c2 : afGo none l ≠ 0
 ·rw [if_pos c2] at h; exact absurd h c2
 rw [if_neg c2] at h ⊢
 by_cases c3 : l.any (noPar l) = true
 ·rw [if_pos c3] at h; omega
 rw [if_neg c3] at h ⊢
 by_cases c4 : (l.any fun x => lpR l x.k l.length x) = true
 ·rw [if_pos c4] at h; omega
 rw [if_neg]
 intro hc
 apply c4
 obtain ⟨x, hx, hlen⟩ := List.any_eq_true.1 hc
 have hlen := of_decide_eq_true hlen
 have hl2 := parA_len l (l.length + 1) x
 have hp := parA_p l (l.length + 1) x (by omega)
 have hno : ∀ y ∈ l, y.p ≠ emp → 0 ≤ idxA l y.p ∧ idxA l y.p < l.length := fun y hy hyp => by
  rcases idxA_rng l y.p with h1 | h1
  ·exact absurd (List.any_eq_true.2 ⟨y, hy, decide_eq_true ⟨hyp, by omega⟩⟩) c3
  ·exact h1
 have hmem : ∀ j, j ≤ l.length → itr l j x ∈ l := fun j => by
  induction j with
  | zero => intro _; exact hx
  | succ j ih =>
   intro hj
   have h1 := ih (by omega)
   have h2 := hno _ h1 (hp j (by omega))
   rw [itr_succ]
   exact getD_mem l _ (by omega)
 obtain ⟨a, b, hab, hb, he⟩ := pigeon l.length (fun j => (idxA l (itr l j x).p).toNat) (fun j hj => by
  have := hno _ (hmem j hj) (hp j (by omega))
  omega)
 have e1 : itr l (a + 1) x = itr l (b + 1) x := by
  rw [itr_succ, itr_succ]; unfold parO
  rw [he]
 refine List.any_eq_true.2 ⟨itr l (a + 1) x, hmem _ (by omega), ?_⟩
 refine lpR_of l _ l.length (b - a - 1) _ (by omega) (fun i hi => ?_) ?_
 ·rw [← itr_add]; exact hp _ (by omega)
 ·rw [← itr_add, show a + 1 + (b - a - 1 + 1) = b + 1 by omega, ← e1]
end Go.Proofs.YtfgkpbkphmeigaaGreatDoor
namespace Go.Proofs.YtfgkpbkphmeigaaGreatDoor
open Go Go.Ai
set_option linter.unusedSimpArgs false
set_option linter.unusedVariables false
set_option maxHeartbeats 4000000
structure Ser where
 t : ByteArray
 l : List Smp
instance : Inhabited Ser := ⟨⟨emp, []⟩⟩
def serS (fr : Bool) (x : Ser) : List Cel := [.g (.string x.t), .sl fr 3 (x.l.map smpC)]
theorem serS_eq (fr : Bool) (x : Ser) : serS fr x = [.g (.string x.t), .sl fr 3 (x.l.map smpC)] := (rfl)
attribute [go_sem] serS_eq
abbrev sers (fr : Bool) (l : List Ser) : Val := .one (.sl fr 2 (l.map (serS true)))
def asGo : Option ByteArray → List Ser → Int
 | _, [] => 0
 | pv, x :: r => if keyOk x.t = false then 5 else if ordBad pv x.t = true then 7 else if serFault x.l ≠ 0 then serFault x.l else asGo (some x.t) r
def asF (s : List Ser) : Int := if s.length > 200 then 2 else asGo none s
structure Opr where
 b : ByteArray
 no : Int
 at_ : Int
 kd : Int
 al : ByteArray
 un : Int
instance : Inhabited Opr := ⟨⟨emp, 0, 0, 0, emp, 0⟩⟩
def oprS (x : Opr) : List Cel := [.g (.string x.b), .g (.int .i64 x.no), .g (.int .i64 x.at_), .g (.int .i64 x.kd), .g (.string x.al), .g (.int .i64 x.un)]
theorem oprS_eq (x : Opr) : oprS x = [.g (.string x.b), .g (.int .i64 x.no), .g (.int .i64 x.at_), .g (.int .i64 x.kd), .g (.string x.al), .g (.int .i64 x.un)] := (rfl)
attribute [go_sem] oprS_eq
abbrev oprs (fr : Bool) (l : List Opr) : Val := .one (.sl fr 6 (l.map oprS))
def opF (x : Opr) : Int := if keyOk x.b = false then 5 else if (x.no < 1 ∨ x.no > 2000) ∨ (x.at_ < 0 ∨ x.at_ ≥ 345686400000) then 1 else if x.kd < 1 ∨ x.kd > 3 then 4 else if keyOk x.al = false then 5 else if x.kd = 2 ∧ (x.un ≤ x.at_ ∨ x.un > 345686400000) then 1 else if x.kd ≠ 2 ∧ x.un ≠ 0 then 3 else 0
def cmpI (a b : Int) : Int := if a < b then -1 else if a > b then 1 else 0
/-- The order of acts. -/
def cmpO (x y : Opr) : Int := if cmpS x.b y.b ≠ 0 then cmpS x.b y.b else cmpI x.no y.no
theorem cmpO_anti (x y : Opr) : cmpO x y = -cmpO y x := by
 have h : cmpS x.b y.b = -cmpS y.b x.b := by
  rcases cmpS_is x.b y.b with ⟨h1, h2⟩ | ⟨h1, h2⟩ | ⟨h1, h2⟩ <;> rcases cmpS_is y.b x.b with ⟨h3, h4⟩ | ⟨h3, h4⟩ | ⟨h3, h4⟩ <;> first | omega | (exfalso; rw [h2] at h4; exact ltS_irr _ h4) | (exfalso; rw [h4] at h2; exact ltS_irr _ h2) | exact absurd h4 (ltS_asymm h2)
 unfold cmpO cmpI
 rw [h]
 split <;> split <;> (repeat' split) <;> omega
def oBad : Option Opr → Opr → Bool
 | none, _ => false
 | some y, x => decide (0 ≤ cmpO y x)
def oLate : Option Opr → Opr → Bool
 | none, _ => false
 | some y, x => decide (y.b = x.b ∧ x.at_ < y.at_)
def ofGo : Option Opr → List Opr → Int
 | _, [] => 0
 | pv, x :: r => if opF x ≠ 0 then opF x else if oBad pv x = true then 7 else ofGo (some x) r
def ltGo : Option Opr → List Opr → Bool
 | _, [] => false
 | pv, x :: r => oLate pv x || ltGo (some x) r
def ofF (a : List Opr) : Int := if a.length > 2000 then 2 else if ofGo none a ≠ 0 then ofGo none a else if ltGo none a = true then 7 else 0
end Go.Proofs.YtfgkpbkphmeigaaGreatDoor
namespace Go.Proofs.YtfgkpbkphmeigaaGreatDoor
open Go Go.Ai
set_option linter.unusedSimpArgs false
set_option linter.unusedVariables false
set_option maxHeartbeats 4000000
section
variable {α : Type} [Inhabited α] {f : α → ByteArray} {l : List α} {key : ByteArray}
/-- In order, each once. -/
def AscG (f : α → ByteArray) (l : List α) : Prop := ∀ i j, i < j → j < l.length → ltS (f (l.getD i default)) (f (l.getD j default))
theorem idxG_eq (p : α → Bool) : ∀ (l : List α) (k : Int) (i : Nat), i < l.length → (∀ j, j < i → p (l.getD j default) = false) → p (l.getD i default) = true → idxG p k l = k + i
 | [], k, i, h, _, _ => by simp at h
 | x :: l, k, 0, _, _, h => by
  have : p x = true := by simpa using h
  rw [idxG, if_pos this]; simp
 | x :: l, k, i + 1, h, h1, h2 => by
  have hx : p x = false := by simpa using h1 0 (by omega)
  rw [idxG, if_neg (by simp [hx]), idxG_eq p l (k + 1) i (by simpa using h) (fun j hj => by simpa using h1 (j + 1) (by omega)) (by simpa using h2)]
  omega
theorem idxG_no (p : α → Bool) : ∀ (l : List α) (k : Int), (∀ j, j < l.length → p (l.getD j default) = false) → idxG p k l = -1
 | [], k, _ => rfl
 | x :: l, k, h => by
  have hx : p x = false := by simpa using h 0 (by simp)
  rw [idxG, if_neg (by simp [hx])]
  exact idxG_no p l (k + 1) fun j hj => by simpa using h (j + 1) (by simpa using hj)
/-- What a binary search finds is the one with the key. -/
theorem idx_pos (ha : AscG f l) {i : Nat} (h : i ≤ l.length) (h1 : ∀ j, j < i → ltS (f (l.getD j default)) key) (h2 : ∀ j, i ≤ j → j < l.length → ¬ltS (f (l.getD j default)) key) :
  idxG (fun x => decide (f x = key)) 0 l = if i < l.length ∧ f (l.getD i default) = key then (i : Int) else -1 := by
 split
 ·rename_i hc
  rw [idxG_eq (fun x => decide (f x = key)) l 0 i hc.1 (fun j hj => decide_eq_false fun e => ltS_irr key (by have := h1 j hj; rwa [e] at this)) (decide_eq_true hc.2)]
  omega
 ·rename_i hc
  refine idxG_no _ l 0 fun j hj => decide_eq_false fun e => ?_
  by_cases hji : j < i
  ·have := h1 j hji
   rw [e] at this; exact ltS_irr _ this
  ·by_cases e2 : j = i
   ·subst e2; exact hc ⟨hj, e⟩
   ·have h3 := ha i j (by omega) hj
    rw [e] at h3
    exact h2 i (Nat.le_refl _) (by omega) h3
theorem asc_le (ha : AscG f l) {i j : Nat} (hij : i ≤ j) (hj : j < l.length) (h : ltS (f (l.getD j default)) key) : ltS (f (l.getD i default)) key := by
 by_cases e : i = j
 ·subst e; exact h
 ·exact ltS_trans (ha i j (by omega) hj) h
end
/-! ### right alarms -/
def ascAdj {α : Type} [Inhabited α] (f : α → ByteArray) (l : List α) : Prop := ∀ i, i + 1 < l.length → ltS (f (l.getD i default)) (f (l.getD (i + 1) default))
theorem asc_of_adj {α : Type} [Inhabited α] {f : α → ByteArray} {l : List α} (h : ascAdj f l) : AscG f l := by
 intro i j hij hj
 induction j with
 | zero => omega
 | succ j ih =>
  by_cases e : i = j
  ·subst e; exact h i hj
  ·exact ltS_trans (ih (by omega) (by omega)) (h j hj)
structure AlmOk (l : List Alm) : Prop where
 len : l.length ≤ 200
 flt : ∀ i, i < l.length → (l.getD i default).flt = 0
 up : AscG Alm.k l
 par : ∀ x ∈ l, x.p ≠ emp → 0 ≤ idxA l x.p ∧ idxA l x.p < l.length
 chn : ∀ x ∈ l, (parA l (l.length + 1) x).length ≤ l.length
theorem afGo_ok : ∀ (l : List Alm) (pv : Option ByteArray), afGo pv l = 0 → (∀ i, i < l.length → (l.getD i default).flt = 0) ∧ ascAdj Alm.k l ∧ (∀ q, pv = some q → 0 < l.length → ltS q (l.getD 0 default).k)
 | [], pv, _ => ⟨fun i h => by simp at h, fun i h => by simp at h, fun q _ h => by simp at h⟩
 | x :: r, pv, h => by
  rw [afGo] at h
  by_cases c1 : x.flt ≠ 0
  ·rw [if_pos c1] at h; exact absurd h c1
  ·rw [if_neg c1] at h
   by_cases c2 : ordBad pv x.k = true
   ·rw [if_pos c2] at h; omega
   ·rw [if_neg c2] at h
    obtain ⟨h1, h2, h3⟩ := afGo_ok r (some x.k) h
    refine ⟨fun i hi => ?_, fun i hi => ?_, fun q hq _ => ?_⟩
    ·cases i with
     | zero => simpa using c1
     | succ i => simpa using h1 i (by simpa using hi)
    ·cases i with
     | zero => simpa using h3 x.k rfl (by simpa using hi)
     | succ i => simpa using h2 i (by simpa using hi)
    ·subst hq
     simpa [ordBad] using c2
theorem almOk_of {l : List Alm} (h : afF l = 0) : AlmOk l := by
 have hc := caF_of h
 unfold afF at h
 unfold caF at hc
 by_cases c1 : l.length > 200
 ·rw [if_pos c1] at h; omega
 rw [if_neg c1] at h hc
 by_cases c2 : afGo none l ≠ 0
 ·rw [if_pos c2] at h; exact absurd h c2
 rw [if_neg c2] at h hc
 by_cases c3 : l.any (noPar l) = true
 ·rw [if_pos c3] at h; omega
 rw [if_neg c3] at hc
 obtain ⟨h1, h2, _⟩ := afGo_ok l none (by omega)
 refine ⟨by omega, h1, asc_of_adj h2, fun x hx hp => ?_, fun x hx => ?_⟩
 ·rcases idxA_rng l x.p with h3 | h3
  ·exact absurd (List.any_eq_true.2 ⟨x, hx, decide_eq_true ⟨hp, by omega⟩⟩) c3
  ·exact h3
 ·by_cases c4 : (l.any fun x => decide ((parA l (l.length + 1) x).length > l.length)) = true
  ·rw [if_pos c4] at hc; omega
  ·apply Classical.byContradiction
   intro hn
   exact c4 (List.any_eq_true.2 ⟨x, hx, decide_eq_true (by omega)⟩)
end Go.Proofs.YtfgkpbkphmeigaaGreatDoor

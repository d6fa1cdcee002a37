/- Strings: their order, strings.Compare. Alarms, series of tags and acts: what is wrong with them. Plain Lean. Series of tags and acts: what is wrong with them. Plain Lean. Where a key stands in a list that is in order. Plain Lean. -/
import Derived.Test.YtbhgndiboeppeaaGreatDoorKey
import Derived.Lib.MinMaxS
import Derived.Test.YtbhgndiboeppeaaGreatDoorAct
set_option linter.all false
set_option maxHeartbeats 4000000
namespace Go.Proofs.YtbhgndiboeppeaaGreatDoor
open Go Go.Ai
def ltS (a b : ByteArray) : Prop := a.data.toList < b.data.toList
instance (a b : ByteArray) : Decidable (ltS a b) := inferInstanceAs (Decidable (a.data.toList < b.data.toList))
def X3 (a b : ByteArray) : Int := Lib.compareBytes a.data.toList b.data.toList
theorem b2h {a b : ByteArray} (h : a.data.toList = b.data.toList) : a = b := by
 cases a with | mk a => cases b with | mk b => exact congrArg ByteArray.mk (Array.ext' h)
theorem r8 (a : ByteArray) : ¬ltS a a := List.lt_irrefl _
theorem H7 {a b c : ByteArray} (h1 : ltS a b) (h2 : ltS b c) : ltS a c := List.lt_trans h1 h2
theorem b3K (a b : ByteArray) : ltS a b ∨ a = b ∨ ltS b a := by
 rcases Classical.em (a.data.toList < b.data.toList) with h | h
 ·exact .inl h
 ·rcases Classical.em (b.data.toList < a.data.toList) with h2 | h2
  ·exact .inr (.inr h2)
  ·exact .inr (.inl (b2h (List.le_antisymm (List.not_lt.1 h2) (List.not_lt.1 h))))
theorem F9 {a b : ByteArray} (h1 : ltS a b) : ¬ltS b a := fun h2 => r8 a (H7 h1 h2)
theorem d5m {a b : List UInt8} : (Lib.compareBytes a b = 0 ∧ a = b) ∨ (Lib.compareBytes a b = -1 ∧ a < b) ∨ (Lib.compareBytes a b = 1 ∧ b < a) := by
 induction a generalizing b with
 | nil => cases b with
  | nil => exact .inl ⟨rfl, rfl⟩
  | cons y b => exact .inr (.inl ⟨rfl, List.nil_lt_cons _ _⟩)
 | cons x a ih => cases b with
  | nil => exact .inr (.inr ⟨rfl, List.nil_lt_cons _ _⟩)
  | cons y b =>
   rw [Lib.compareBytes]
   by_cases h1 : x < y
   ·rw [if_pos h1]; exact .inr (.inl ⟨rfl, List.cons_lt_cons_iff.2 (.inl h1)⟩)
   ·rw [if_neg h1]
    by_cases h2 : y < x
    ·rw [if_pos h2]; exact .inr (.inr ⟨rfl, List.cons_lt_cons_iff.2 (.inl h2)⟩)
    ·rw [if_neg h2]
     have e : x = y := UInt8.le_antisymm (UInt8.not_lt.1 h2) (UInt8.not_lt.1 h1)
     subst e
     rcases ih (b := b) with ⟨h, rfl⟩ | ⟨h, h3⟩ | ⟨h, h3⟩
     ·exact .inl ⟨h, rfl⟩
     ·exact .inr (.inl ⟨h, List.cons_lt_cons_iff.2 (.inr ⟨rfl, h3⟩)⟩)
     ·exact .inr (.inr ⟨h, List.cons_lt_cons_iff.2 (.inr ⟨rfl, h3⟩)⟩)
theorem I0 (a b : ByteArray) : (X3 a b = 0 ∧ a = b) ∨ (X3 a b = -1 ∧ ltS a b) ∨ (X3 a b = 1 ∧ ltS b a) := by
 rcases d5m (a := a.data.toList) (b := b.data.toList) with ⟨h, h2⟩ | h | h
 ·exact .inl ⟨h, b2h h2⟩
 ·exact .inr (.inl h)
 ·exact .inr (.inr h)
theorem d3b (a b : ByteArray) : Op.bytesLess a.toList b.toList = decide (ltS a b) := by
 rw [ByteArray.toList_eq, ByteArray.toList_eq, Proofs.bytesLess_eq]; rfl
theorem d1P (a b : ByteArray) : (a.toList == b.toList) = decide (a = b) := by
 rw [ByteArray.toList_eq, ByteArray.toList_eq]
 by_cases h : a = b
 ·subst h; simp
 ·rw [decide_eq_false h]
  exact Bool.eq_false_iff.2 fun h2 => h (b2h (beq_iff_eq.1 h2))
theorem c6Z {p q : Prop} [Decidable p] [Decidable q] : (decide p || decide q) = decide (p ∨ q) := by simp
attribute [go_sem] d3b d1P c6Z
set_option maxRecDepth 100000 in
theorem a2i (a b : ByteArray) (w : World) :
  Calls Tryz.prog 94 #[.string a, .string b] w fun e w' => e = .returned (.int .i64 (Lib.compareBytes a.data.toList b.data.toList)) ∧ w' = w := by
 go_enter Tryz.func94, Tryz.ntmps94
 go_wp2
 rw [run_callFunc_extern Tryz.func132 (by kernel_rfl) (by kernel_rfl) (by kernel_rfl) (e := Extern.BytealgCompare.compare) (by kernel_rfl), Lib.run_compareString]
 simp only [Result.andThen]
 rw [Oper.upon_value]
 go_wp2
 go_ret
 exact ⟨rfl, rfl⟩
theorem a2p (a b : ByteArray) (w : World) :
  Calls Tryz.prog 54 #[.string a, .string b] w fun e w' => e = .returned (.int .i64 (Lib.compareBytes a.data.toList b.data.toList)) ∧ w' = w := by
 go_enter Tryz.func54, Tryz.ntmps54
 go_wp2_with (go_at_call 94; refine (a2i _ _ _).mono ?_; rintro e w' ⟨rfl, rfl⟩)
 go_ret
 exact ⟨rfl, rfl⟩
theorem a0n (a b : ByteArray) : FC Tryz.prog 54 none [sv a, sv b] (fun _ r => r = iv (X3 a b)) :=
 b2f [.string a, .string b] ⟨Tryz.f54, Tryz.func54, by kernel_rfl, by kernel_rfl⟩ rfl fun w => a2p a b w
structure Alm where
 k : ByteArray
 t : ByteArray
 kd : Int
 lim : Int
 db : Int
 on : Int
 off : Int
 pr : Int
 lt : Bool
 p : ByteArray
abbrev emp : ByteArray := ByteArray.mk #[]
instance : Inhabited Alm := ⟨⟨emp, emp, 0, 0, 0, 0, 0, 0, false, emp⟩⟩
def z7 (x : Alm) : List Cel := b0r x.k x.t x.p x.lt x.kd x.lim x.db x.on x.off x.pr
theorem o6 (x : Alm) : z7 x = [.g (.string x.k), .g (.string x.t), .g (.int .i64 x.kd), .g (.int .i64 x.lim), .g (.int .i64 x.db), .g (.int .i64 x.on), .g (.int .i64 x.off), .g (.int .i64 x.pr), .g (.bool x.lt), .g (.string x.p)] := (rfl)
attribute [go_sem] o6
abbrev r6 (fr : Bool) (l : List Alm) : Val := .one (.sl fr 10 (l.map z7))
def Alm.flt (x : Alm) : Int := a3p (m5 x.k && m5 x.t) x.kd x.lim x.db x.on x.off x.pr
def Alm.sm (x : Alm) : Prop := x.k.size ≤ 1000 ∧ x.t.size ≤ 1000 ∧ x.p.size ≤ 1000
def q8 (l : List Alm) (key : ByteArray) : Int := D0 (fun x : Alm => decide (x.k = key)) 0 l
def D9 : Option ByteArray → ByteArray → Bool
 | none, _ => false
 | some p, k => decide (¬ltS p k)
def a2M : Option ByteArray → List Alm → Int
 | _, [] => 0
 | pv, x :: r => if x.flt ≠ 0 then x.flt else if D9 pv x.k = true then 7 else a2M (some x.k) r
def Q9 (l : List Alm) (x : Alm) : Bool := decide (x.p ≠ emp ∧ q8 l x.p < 0)
def a3h (l : List Alm) (x : Alm) : Alm := l.getD (q8 l x.p).toNat default
def lpR (l : List Alm) (k : ByteArray) : Nat → Alm → Bool
 | 0, _ => false
 | n + 1, x => if x.p = emp then false else if (a3h l x).k = k then true else lpR l k n (a3h l x)
def G0 (l : List Alm) : Nat → Alm → List Int
 | 0, _ => []
 | n + 1, x => if x.p = emp then [] else q8 l x.p :: G0 l n (a3h l x)
def afF (l : List Alm) : Int := if l.length > 200 then 2 else if a2M none l ≠ 0 then a2M none l else if l.any (Q9 l) = true then 8 else if (l.any fun x => lpR l x.k l.length x) = true then 14 else 0
def caF (l : List Alm) : Int := if l.length > 200 then 2 else if a2M none l ≠ 0 then a2M none l else if l.any (Q9 l) = true then 8 else if (l.any fun x => decide ((G0 l (l.length + 1) x).length > l.length)) = true then 14 else 0
/-! ### numbers -/
theorem O4 {α : Type} (p : α → Bool) : ∀ (l : List α) (i : Int), D0 p i l = -1 ∨ (i ≤ D0 p i l ∧ D0 p i l < i + l.length)
 | [], i => .inl rfl
 | x :: l, i => by
  rw [D0]
  split
  ·right; simp; omega
  ·rcases O4 p l (i + 1) with h | h
   ·exact .inl h
   ·right; simp; omega
theorem D5 (l : List Alm) (k : ByteArray) : q8 l k = -1 ∨ (0 ≤ q8 l k ∧ q8 l k < l.length) := by
 have := O4 (fun x : Alm => decide (x.k = k)) l 0
 unfold q8; omega
theorem c0G : ∀ (n : Nat) (f : Nat → Nat), (∀ i, i ≤ n → f i < n) → ∃ a b, a < b ∧ b ≤ n ∧ f a = f b
 | 0, f, h => by have := h 0 (Nat.le_refl _); omega
 | n + 1, f, h => by
  by_cases hc : ∃ a, a ≤ n ∧ f a = f (n + 1)
  ·obtain ⟨a, ha, he⟩ := hc
   exact ⟨a, n + 1, by omega, Nat.le_refl _, he⟩
  ·have hne : ∀ a, a ≤ n → f a ≠ f (n + 1) := fun a ha he => hc ⟨a, ha, he⟩
   obtain ⟨a, b, h1, h2, h3⟩ := c0G n (fun i => if f i < f (n + 1) then f i else f i - 1) (fun i hi => by
    have h4 := h i (by omega)
    have h5 := h (n + 1) (Nat.le_refl _)
    have h6 := hne i hi
    split <;> omega)
   refine ⟨a, b, h1, by omega, ?_⟩
   grind
/-! ### what the reference lets by the program lets by -/
def itr (l : List Alm) : Nat → Alm → Alm
 | 0, x => x
 | n + 1, x => itr l n (a3h l x)
theorem X5 (l : List Alm) : ∀ (n : Nat) (x : Alm), itr l (n + 1) x = a3h l (itr l n x)
 | 0, x => rfl
 | n + 1, x => by rw [itr, X5 l n, ← itr]
theorem a2V (l : List Alm) : ∀ (m n : Nat) (x : Alm), itr l (m + n) x = itr l n (itr l m x)
 | 0, n, x => by rw [Nat.zero_add]; rfl
 | m + 1, n, x => by rw [show m + 1 + n = (m + n) + 1 by omega, itr, itr, a2V l m n]
theorem b9H (l : List Alm) : ∀ (n : Nat) (x : Alm), (G0 l n x).length = n → ∀ j, j < n → (itr l j x).p ≠ emp
 | 0, x, _, j, hj => by omega
 | n + 1, x, h, j, hj => by
  rw [G0] at h
  by_cases c : x.p = emp
  ·grind
  ·rw [if_neg c, List.length_cons] at h
   cases j with
   | zero => exact c
   | succ j => rw [itr]; exact b9H l n _ (by omega) j (by omega)
theorem W8 (l : List Alm) : ∀ (n : Nat) (x : Alm), (G0 l n x).length ≤ n
 | 0, x => Nat.le_refl _
 | n + 1, x => by
  rw [G0]
  split
  ·simp
  ·have := W8 l n (a3h l x); simp; omega
theorem c0B (l : List Alm) (k : ByteArray) : ∀ (n j : Nat) (x : Alm), j < n → (∀ i, i ≤ j → (itr l i x).p ≠ emp) → (itr l (j + 1) x).k = k → lpR l k n x = true
 | 0, j, x, h, _, _ => by omega
 | n + 1, j, x, h, hp, hk => by
  have h0 : x.p ≠ emp := hp 0 (by omega)
  rw [lpR, if_neg h0]
  cases j with
  | zero =>
   have h1 : (a3h l x).k = k := hk
   rw [if_pos h1]
  | succ j =>
   split
   ·rfl
   ·exact c0B l k n j (a3h l x) (by omega) (fun i hi => hp (i + 1) (by omega)) hk
theorem c0k {l : List Alm} (h : afF l = 0) : caF l = 0 := by
 unfold afF at h
 unfold caF
 by_cases c1 : l.length > 200
 ·rw [if_pos c1] at h; omega
 rw [if_neg c1] at h ⊢
 by_cases c2 : a2M none l ≠ 0
 ·grind
 rw [if_neg c2] at h ⊢
 by_cases c3 : l.any (Q9 l) = true
 ·rw [if_pos c3] at h; omega
 rw [if_neg c3] at h ⊢
 by_cases c4 : (l.any fun x => lpR l x.k l.length x) = true
 ·rw [if_pos c4] at h; omega
 rw [if_neg]
 intro hc
 apply c4
 obtain ⟨x, hx, hlen⟩ := List.any_eq_true.1 hc
 have hlen := of_decide_eq_true hlen
 have hl2 := W8 l (l.length + 1) x
 have hp := b9H l (l.length + 1) x (by omega)
 have hno : ∀ y ∈ l, y.p ≠ emp → 0 ≤ q8 l y.p ∧ q8 l y.p < l.length := fun y hy hyp => by
  rcases D5 l y.p with h1 | h1
  ·exact absurd (List.any_eq_true.2 ⟨y, hy, decide_eq_true ⟨hyp, by omega⟩⟩) c3
  ·exact h1
 have hmem : ∀ j, j ≤ l.length → itr l j x ∈ l := fun j => by
  induction j with
  | zero => intro _; exact hx
  | succ j ih =>
   intro hj
   have h1 := ih (by omega)
   have h2 := hno _ h1 (hp j (by omega))
   rw [X5]
   exact j5 l _ (by omega)
 obtain ⟨a, b, hab, hb, he⟩ := c0G l.length (fun j => (q8 l (itr l j x).p).toNat) (fun j hj => by
  have := hno _ (hmem j hj) (hp j (by omega))
  omega)
 have e1 : itr l (a + 1) x = itr l (b + 1) x := by
  rw [X5, X5]; unfold a3h
  rw [he]
 refine List.any_eq_true.2 ⟨itr l (a + 1) x, hmem _ (by omega), ?_⟩
 refine c0B l _ l.length (b - a - 1) _ (by omega) (fun i hi => ?_) ?_
 ·rw [← a2V]; exact hp _ (by omega)
 ·rw [← a2V, show a + 1 + (b - a - 1 + 1) = b + 1 by omega, ← e1]
structure Ser where
 t : ByteArray
 l : List Smp
instance : Inhabited Ser := ⟨⟨emp, []⟩⟩
def b0n (fr : Bool) (x : Ser) : List Cel := [.g (.string x.t), .sl fr 3 (x.l.map a4l)]
theorem a1J (fr : Bool) (x : Ser) : b0n fr x = [.g (.string x.t), .sl fr 3 (x.l.map a4l)] := (rfl)
attribute [go_sem] a1J
abbrev B3 (fr : Bool) (l : List Ser) : Val := .one (.sl fr 2 (l.map (b0n true)))
def b0p : Option ByteArray → List Ser → Int
 | _, [] => 0
 | pv, x :: r => if m5 x.t = false then 5 else if D9 pv x.t = true then 7 else if n7 x.l ≠ 0 then n7 x.l else b0p (some x.t) r
def asF (s : List Ser) : Int := if s.length > 200 then 2 else b0p none s
structure Opr where
 b : ByteArray
 no : Int
 at_ : Int
 kd : Int
 al : ByteArray
 un : Int
instance : Inhabited Opr := ⟨⟨emp, 0, 0, 0, emp, 0⟩⟩
def N7 (x : Opr) : List Cel := [.g (.string x.b), .g (.int .i64 x.no), .g (.int .i64 x.at_), .g (.int .i64 x.kd), .g (.string x.al), .g (.int .i64 x.un)]
theorem u3 (x : Opr) : N7 x = [.g (.string x.b), .g (.int .i64 x.no), .g (.int .i64 x.at_), .g (.int .i64 x.kd), .g (.string x.al), .g (.int .i64 x.un)] := (rfl)
attribute [go_sem] u3
abbrev u9 (fr : Bool) (l : List Opr) : Val := .one (.sl fr 6 (l.map N7))
def opF (x : Opr) : Int := if m5 x.b = false then 5 else if (x.no < 1 ∨ x.no > 2000) ∨ (x.at_ < 0 ∨ x.at_ ≥ 345686400000) then 1 else if x.kd < 1 ∨ x.kd > 3 then 4 else if m5 x.al = false then 5 else if x.kd = 2 ∧ (x.un ≤ x.at_ ∨ x.un > 345686400000) then 1 else if x.kd ≠ 2 ∧ x.un ≠ 0 then 3 else 0
def d4j (a b : Int) : Int := if a < b then -1 else if a > b then 1 else 0
def a2t (x y : Opr) : Int := if X3 x.b y.b ≠ 0 then X3 x.b y.b else d4j x.no y.no
theorem b4A (x y : Opr) : a2t x y = -a2t y x := by
 have h : X3 x.b y.b = -X3 y.b x.b := by
  rcases I0 x.b y.b with ⟨h1, h2⟩ | ⟨h1, h2⟩ | ⟨h1, h2⟩ <;> rcases I0 y.b x.b with ⟨h3, h4⟩ | ⟨h3, h4⟩ | ⟨h3, h4⟩ <;> first | omega | (exfalso; rw [h2] at h4; exact r8 _ h4) | (exfalso; rw [h4] at h2; exact r8 _ h2) | exact absurd h4 (F9 h2)
 unfold a2t d4j
 grind
def b9F : Option Opr → Opr → Bool
 | none, _ => false
 | some y, x => decide (0 ≤ a2t y x)
def b3j : Option Opr → Opr → Bool
 | none, _ => false
 | some y, x => decide (y.b = x.b ∧ x.at_ < y.at_)
def a5B : Option Opr → List Opr → Int
 | _, [] => 0
 | pv, x :: r => if opF x ≠ 0 then opF x else if b9F pv x = true then 7 else a5B (some x) r
def a9t : Option Opr → List Opr → Bool
 | _, [] => false
 | pv, x :: r => b3j pv x || a9t (some x) r
def ofF (a : List Opr) : Int := if a.length > 2000 then 2 else if a5B none a ≠ 0 then a5B none a else if a9t none a = true then 7 else 0
section
variable {α : Type} [Inhabited α] {f : α → ByteArray} {l : List α} {key : ByteArray}
def a0h (f : α → ByteArray) (l : List α) : Prop := ∀ i j, i < j → j < l.length → ltS (f (l.getD i default)) (f (l.getD j default))
theorem a6D (p : α → Bool) : ∀ (l : List α) (k : Int) (i : Nat), i < l.length → (∀ j, j < i → p (l.getD j default) = false) → p (l.getD i default) = true → D0 p k l = k + i
 | [], k, i, h, _, _ => by simp at h
 | x :: l, k, 0, _, _, h => by
  have : p x = true := by simpa using h
  rw [D0, if_pos this]; simp
 | x :: l, k, i + 1, h, h1, h2 => by
  have hx : p x = false := by simpa using h1 0 (by omega)
  rw [D0, if_neg (by simp [hx]), a6D p l (k + 1) i (by simpa using h) (fun j hj => by simpa using h1 (j + 1) (by omega)) (by simpa using h2)]
  omega
theorem b2Y (p : α → Bool) : ∀ (l : List α) (k : Int), (∀ j, j < l.length → p (l.getD j default) = false) → D0 p k l = -1
 | [], k, _ => rfl
 | x :: l, k, h => by
  have hx : p x = false := by simpa using h 0 (by simp)
  rw [D0, if_neg (by simp [hx])]
  exact b2Y p l (k + 1) fun j hj => by simpa using h (j + 1) (by simpa using hj)
theorem b2C (ha : a0h f l) {i : Nat} (h : i ≤ l.length) (h1 : ∀ j, j < i → ltS (f (l.getD j default)) key) (h2 : ∀ j, i ≤ j → j < l.length → ¬ltS (f (l.getD j default)) key) :
  D0 (fun x => decide (f x = key)) 0 l = if i < l.length ∧ f (l.getD i default) = key then (i : Int) else -1 := by
 split
 ·rename_i hc
  rw [a6D (fun x => decide (f x = key)) l 0 i hc.1 (fun j hj => decide_eq_false fun e => r8 key (by have := h1 j hj; rwa [e] at this)) (decide_eq_true hc.2)]
  omega
 ·rename_i hc
  refine b2Y _ l 0 fun j hj => decide_eq_false fun e => ?_
  by_cases hji : j < i
  ·have := h1 j hji
   rw [e] at this; exact r8 _ this
  ·by_cases e2 : j = i
   ·grind
   ·have h3 := ha i j (by omega) hj
    grind
theorem d0t (ha : a0h f l) {i j : Nat} (hij : i ≤ j) (hj : j < l.length) (h : ltS (f (l.getD j default)) key) : ltS (f (l.getD i default)) key := by
 by_cases e : i = j
 ·subst e; exact h
 ·exact H7 (ha i j (by omega) hj) h
end
/-! ### right alarms -/
def b4r {α : Type} [Inhabited α] (f : α → ByteArray) (l : List α) : Prop := ∀ i, i + 1 < l.length → ltS (f (l.getD i default)) (f (l.getD (i + 1) default))
theorem T7 {α : Type} [Inhabited α] {f : α → ByteArray} {l : List α} (h : b4r f l) : a0h f l := by
 intro i j hij hj
 induction j with
 | zero => omega
 | succ j ih =>
  by_cases e : i = j
  ·subst e; exact h i hj
  ·exact H7 (ih (by omega) (by omega)) (h j hj)
structure J8 (l : List Alm) : Prop where
 len : l.length ≤ 200
 flt : ∀ i, i < l.length → (l.getD i default).flt = 0
 up : a0h Alm.k l
 par : ∀ x ∈ l, x.p ≠ emp → 0 ≤ q8 l x.p ∧ q8 l x.p < l.length
 chn : ∀ x ∈ l, (G0 l (l.length + 1) x).length ≤ l.length
theorem a3v : ∀ (l : List Alm) (pv : Option ByteArray), a2M pv l = 0 → (∀ i, i < l.length → (l.getD i default).flt = 0) ∧ b4r Alm.k l ∧ (∀ q, pv = some q → 0 < l.length → ltS q (l.getD 0 default).k)
 | [], pv, _ => ⟨fun i h => by simp at h, fun i h => by simp at h, fun q _ h => by simp at h⟩
 | x :: r, pv, h => by
  rw [a2M] at h
  by_cases c1 : x.flt ≠ 0
  ·grind
  ·rw [if_neg c1] at h
   by_cases c2 : D9 pv x.k = true
   ·rw [if_pos c2] at h; omega
   ·rw [if_neg c2] at h
    obtain ⟨h1, h2, h3⟩ := a3v r (some x.k) h
    refine ⟨fun i hi => ?_, fun i hi => ?_, fun q hq _ => ?_⟩
    ·grind
    ·cases i with
     | zero => simpa using h3 x.k rfl (by simpa using hi)
     | succ i => simpa using h2 i (by simpa using hi)
    ·subst hq
     simpa [D9] using c2
theorem b5c {l : List Alm} (h : afF l = 0) : J8 l := by
 have hc := c0k h
 unfold afF at h
 unfold caF at hc
 by_cases c1 : l.length > 200
 ·rw [if_pos c1] at h; omega
 rw [if_neg c1] at h hc
 by_cases c2 : a2M none l ≠ 0
 ·grind
 rw [if_neg c2] at h hc
 by_cases c3 : l.any (Q9 l) = true
 ·rw [if_pos c3] at h; omega
 rw [if_neg c3] at hc
 obtain ⟨h1, h2, _⟩ := a3v l none (by omega)
 refine ⟨by omega, h1, T7 h2, fun x hx hp => ?_, fun x hx => ?_⟩
 ·rcases D5 l x.p with h3 | h3
  ·exact absurd (List.any_eq_true.2 ⟨x, hx, decide_eq_true ⟨hp, by omega⟩⟩) c3
  ·exact h3
 ·all_goals grind
structure a3j (s : List Ser) : Prop where
 len : s.length ≤ 200
 key : ∀ i, i < s.length → m5 (s.getD i default).t = true
 ser : ∀ i, i < s.length → n7 (s.getD i default).l = 0
 up : a0h Ser.t s
theorem b3N : ∀ (l : List Ser) (pv : Option ByteArray), b0p pv l = 0 → (∀ i, i < l.length → m5 (l.getD i default).t = true ∧ n7 (l.getD i default).l = 0) ∧ b4r Ser.t l ∧ (∀ q, pv = some q → 0 < l.length → ltS q (l.getD 0 default).t)
 | [], pv, _ => ⟨fun i h => by simp at h, fun i h => by simp at h, fun q _ h => by simp at h⟩
 | x :: r, pv, h => by
  rw [b0p] at h
  by_cases c1 : m5 x.t = false
  ·rw [if_pos c1] at h; omega
  ·rw [if_neg c1] at h
   by_cases c2 : D9 pv x.t = true
   ·rw [if_pos c2] at h; omega
   ·rw [if_neg c2] at h
    by_cases c3 : n7 x.l ≠ 0
    ·grind
    ·rw [if_neg c3] at h
     obtain ⟨h1, h2, h3⟩ := b3N r (some x.t) h
     refine ⟨fun i hi => ?_, fun i hi => ?_, fun q hq _ => ?_⟩
     ·grind
     ·cases i with
      | zero => simpa using h3 x.t rfl (by simpa using hi)
      | succ i => simpa using h2 i (by simpa using hi)
     ·subst hq
      simpa [D9] using c2
theorem b8H {s : List Ser} (h : asF s = 0) : a3j s := by
 unfold asF at h
 split at h
 ·omega
 ·obtain ⟨h1, h2, _⟩ := b3N s none h
  exact ⟨by omega, fun i hi => (h1 i hi).1, fun i hi => (h1 i hi).2, T7 h2⟩
end Go.Proofs.YtbhgndiboeppeaaGreatDoor

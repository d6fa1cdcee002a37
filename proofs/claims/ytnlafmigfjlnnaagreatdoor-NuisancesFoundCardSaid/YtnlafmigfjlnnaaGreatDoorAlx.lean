/- Which alarm has a key. -/
import Derived.Lib.MinMaxS
import Derived.Test.YtnlafmigfjlnnaaGreatDoorAct
set_option linter.all false
set_option maxHeartbeats 0
set_option maxRecDepth 100000
namespace Go.Proofs.YtnlafmigfjlnnaaGreatDoor
open Go Go.Ai
def ltS (a b : ByteArray) : Prop := a.data.toList < b.data.toList
instance (a b : ByteArray) : Decidable (ltS a b) := inferInstanceAs (Decidable (a.data.toList < b.data.toList))
def a0u (a b : ByteArray) : Int := Lib.compareBytes a.data.toList b.data.toList
theorem b3M {a b : ByteArray} (h : a.data.toList = b.data.toList) : a = b := by
 cases a with | mk a => cases b with | mk b => exact congrArg ByteArray.mk (Array.ext' h)
theorem r8 (a : ByteArray) : ¬ltS a a := List.lt_irrefl _
theorem P3 {a b c : ByteArray} (h1 : ltS a b) (h2 : ltS b c) : ltS a c := List.lt_trans h1 h2
theorem c1x (a b : ByteArray) : ltS a b ∨ a = b ∨ ltS b a := by
 rcases Classical.em (a.data.toList < b.data.toList) with h | h
 ·exact .inl h
 ·rcases Classical.em (b.data.toList < a.data.toList) with h2 | h2
  ·exact .inr (.inr h2)
  ·exact .inr (.inl (b3M (List.le_antisymm (List.not_lt.1 h2) (List.not_lt.1 h))))
theorem M6 {a b : ByteArray} (h1 : ltS a b) : ¬ltS b a := fun h2 => r8 a (P3 h1 h2)
theorem d6X {a b : List UInt8} : (Lib.compareBytes a b = 0 ∧ a = b) ∨ (Lib.compareBytes a b = -1 ∧ a < b) ∨ (Lib.compareBytes a b = 1 ∧ b < a) := by
 induction a generalizing b with
 | nil => cases b with
  | nil => exact .inl ⟨rfl, rfl⟩
  | cons y b => exact .inr (.inl ⟨rfl, List.nil_lt_cons _ _⟩)
 | cons x a ih => cases b with
  | nil => exact .inr (.inr ⟨rfl, List.nil_lt_cons _ _⟩)
  | cons y b =>
   rw [Lib.compareBytes]
   by_cases h1 : x < y
   ·rw [if_pos h1]; exact .inr (.inl ⟨rfl, List.cons_lt_cons_iff.2 (.inl h1)⟩)
   ·rw [if_neg h1]
    by_cases h2 : y < x
    ·rw [if_pos h2]; exact .inr (.inr ⟨rfl, List.cons_lt_cons_iff.2 (.inl h2)⟩)
    ·rw [if_neg h2]
     have e : x = y := UInt8.le_antisymm (UInt8.not_lt.1 h2) (UInt8.not_lt.1 h1)
     subst e
     rcases ih (b := b) with ⟨h, rfl⟩ | ⟨h, h3⟩ | ⟨h, h3⟩
     ·exact .inl ⟨h, rfl⟩
     ·exact .inr (.inl ⟨h, List.cons_lt_cons_iff.2 (.inr ⟨rfl, h3⟩)⟩)
     ·exact .inr (.inr ⟨h, List.cons_lt_cons_iff.2 (.inr ⟨rfl, h3⟩)⟩)
theorem L5 (a b : ByteArray) : (a0u a b = 0 ∧ a = b) ∨ (a0u a b = -1 ∧ ltS a b) ∨ (a0u a b = 1 ∧ ltS b a) := by
 rcases d6X (a := a.data.toList) (b := b.data.toList) with ⟨h, h2⟩ | h | h
 ·exact .inl ⟨h, b3M h2⟩
 ·exact .inr (.inl h)
 ·exact .inr (.inr h)
theorem d3h (a b : ByteArray) : Op.bytesLess a.toList b.toList = decide (ltS a b) := by
 rw [ByteArray.toList_eq, ByteArray.toList_eq, Proofs.bytesLess_eq]; rfl
theorem d2V (a b : ByteArray) : (a.toList == b.toList) = decide (a = b) := by
 rw [ByteArray.toList_eq, ByteArray.toList_eq]
 by_cases h : a = b
 ·subst h; simp
 ·rw [decide_eq_false h]
  exact Bool.eq_false_iff.2 fun h2 => h (b3M (beq_iff_eq.1 h2))
theorem d1j {p q : Prop} [Decidable p] [Decidable q] : (decide p || decide q) = decide (p ∨ q) := by simp
attribute [go_sem] d3h d2V d1j
theorem a2k (a b : ByteArray) (w : World) :
  Calls Tryz.prog 137 #[.string a, .string b] w fun e w' => e = .returned (.int .i64 (Lib.compareBytes a.data.toList b.data.toList)) ∧ w' = w := by
 go_enter Tryz.func137, Tryz.ntmps137
 go_wp2
 rw [run_callFunc_extern Tryz.func165 (by kernel_rfl) (by kernel_rfl) (by kernel_rfl) (e := Extern.BytealgCompare.compare) (by kernel_rfl), Lib.run_compareString]
 simp only [Result.andThen]
 rw [Oper.upon_value]
 go_wp2
 go_ret
 exact ⟨rfl, rfl⟩
theorem a2i (a b : ByteArray) (w : World) :
  Calls Tryz.prog 95 #[.string a, .string b] w fun e w' => e = .returned (.int .i64 (Lib.compareBytes a.data.toList b.data.toList)) ∧ w' = w := by
 go_enter Tryz.func95, Tryz.ntmps95
 go_wp2_with (go_at_call 137; refine (a2k _ _ _).mono ?_; rintro e w' ⟨rfl, rfl⟩)
 go_ret
 exact ⟨rfl, rfl⟩
theorem a1i (a b : ByteArray) : FC Tryz.prog 95 none [sv a, sv b] (fun _ r => r = iv (a0u a b)) :=
 b4p [.string a, .string b] ⟨Tryz.f95, Tryz.func95, by kernel_rfl, by kernel_rfl⟩ rfl fun w => a2i a b w
structure Alm where
 k : ByteArray
 t : ByteArray
 kd : Int
 lim : Int
 db : Int
 on : Int
 off : Int
 pr : Int
 lt : Bool
 p : ByteArray
abbrev emp : ByteArray := ByteArray.mk #[]
instance : Inhabited Alm := ⟨⟨emp, emp, 0, 0, 0, 0, 0, 0, false, emp⟩⟩
def D0 (x : Alm) : List Cel := b0R x.k x.t x.p x.lt x.kd x.lim x.db x.on x.off x.pr
theorem j9 (x : Alm) : D0 x = [.g (.string x.k), .g (.string x.t), .g (.int .i64 x.kd), .g (.int .i64 x.lim), .g (.int .i64 x.db), .g (.int .i64 x.on), .g (.int .i64 x.off), .g (.int .i64 x.pr), .g (.bool x.lt), .g (.string x.p)] := (rfl)
attribute [go_sem] j9
abbrev r6 (fr : Bool) (l : List Alm) : Val := .one (.sl fr 10 (l.map D0))
def Alm.flt (x : Alm) : Int := a4l (l8 x.k && l8 x.t) x.kd x.lim x.db x.on x.off x.pr
def Alm.sm (x : Alm) : Prop := x.k.size <= 1000 ∧ x.t.size <= 1000 ∧ x.p.size <= 1000
def v7 (l : List Alm) (key : ByteArray) : Int := D3 (fun x : Alm => decide (x.k = key)) 0 l
def D7 : Option ByteArray -> ByteArray -> Bool
 | none, _ => false
 | some p, k => decide (¬ltS p k)
def a2v : Option ByteArray -> List Alm -> Int
 | _, [] => 0
 | pv, x :: r => if x.flt ≠ 0 then x.flt else if D7 pv x.k = true then 7 else a2v (some x.k) r
def P7 (l : List Alm) (x : Alm) : Bool := decide (x.p ≠ emp ∧ v7 l x.p < 0)
def a3l (l : List Alm) (x : Alm) : Alm := l.getD (v7 l x.p).toNat default
def lpR (l : List Alm) (k : ByteArray) : Nat -> Alm -> Bool
 | 0, _ => false
 | n + 1, x => if x.p = emp then false else if (a3l l x).k = k then true else lpR l k n (a3l l x)
def G9 (l : List Alm) : Nat -> Alm -> List Int
 | 0, _ => []
 | n + 1, x => if x.p = emp then [] else v7 l x.p :: G9 l n (a3l l x)
def afF (l : List Alm) : Int := if l.length > 200 then 2 else if a2v none l ≠ 0 then a2v none l else if l.any (P7 l) = true then 8 else if (l.any fun x => lpR l x.k l.length x) = true then 14 else 0
def caF (l : List Alm) : Int := if l.length > 200 then 2 else if a2v none l ≠ 0 then a2v none l else if l.any (P7 l) = true then 8 else if (l.any fun x => decide ((G9 l (l.length + 1) x).length > l.length)) = true then 14 else 0
/-! ### numbers -/
theorem N2 {α : Type} (p : α -> Bool) : ∀ (l : List α) (i : Int), D3 p i l = -1 ∨ (i <= D3 p i l ∧ D3 p i l < i + l.length)
 | [], i => .inl rfl
 | x :: l, i => by
  rw [D3]
  split
  ·right; simp; omega
  ·rcases N2 p l (i + 1) with h | h
   ·exact .inl h
   ·right; simp; omega
theorem S3 (l : List Alm) (k : ByteArray) : v7 l k = -1 ∨ (0 <= v7 l k ∧ v7 l k < l.length) := by
 have := N2 (fun x : Alm => decide (x.k = k)) l 0
 unfold v7; omega
theorem c0H : ∀ (n : Nat) (f : Nat -> Nat), (∀ i, i <= n -> f i < n) -> ∃ a b, a < b ∧ b <= n ∧ f a = f b
 | 0, f, h => by have := h 0 (Nat.le_refl _); omega
 | n + 1, f, h => by
  by_cases hc : ∃ a, a <= n ∧ f a = f (n + 1)
  ·obtain ⟨a, ha, he⟩ := hc
   exact ⟨a, n + 1, by omega, Nat.le_refl _, he⟩
  ·have hne : ∀ a, a <= n -> f a ≠ f (n + 1) := fun a ha he => hc ⟨a, ha, he⟩
   obtain ⟨a, b, h1, h2, h3⟩ := c0H n (fun i => if f i < f (n + 1) then f i else f i - 1) (fun i hi => by
    have h4 := h i (by omega)
    have h5 := h (n + 1) (Nat.le_refl _)
    have h6 := hne i hi
    split <;> omega)
   refine ⟨a, b, h1, by omega, ?_⟩
   grind
/-! ### what the reference lets by the program lets by -/
def itr (l : List Alm) : Nat -> Alm -> Alm
 | 0, x => x
 | n + 1, x => itr l n (a3l l x)
theorem X1 (l : List Alm) : ∀ (n : Nat) (x : Alm), itr l (n + 1) x = a3l l (itr l n x)
 | 0, x => rfl
 | n + 1, x => by rw [itr, X1 l n, <- itr]
theorem a2X (l : List Alm) : ∀ (m n : Nat) (x : Alm), itr l (m + n) x = itr l n (itr l m x)
 | 0, n, x => by rw [Nat.zero_add]; rfl
 | m + 1, n, x => by rw [show m + 1 + n = (m + n) + 1 by omega, itr, itr, a2X l m n]
theorem c1b (l : List Alm) : ∀ (n : Nat) (x : Alm), (G9 l n x).length = n -> ∀ j, j < n -> (itr l j x).p ≠ emp
 | 0, x, _, j, hj => by omega
 | n + 1, x, h, j, hj => by
  rw [G9] at h
  by_cases c : x.p = emp
  ·grind
  ·rw [if_neg c, List.length_cons] at h
   cases j with
   | zero => exact c
   | succ j => rw [itr]; exact c1b l n _ (by omega) j (by omega)
theorem a0U (l : List Alm) : ∀ (n : Nat) (x : Alm), (G9 l n x).length <= n
 | 0, x => Nat.le_refl _
 | n + 1, x => by
  rw [G9]
  split
  ·simp
  ·have := a0U l n (a3l l x); simp; omega
theorem c1O (l : List Alm) (k : ByteArray) : ∀ (n j : Nat) (x : Alm), j < n -> (∀ i, i <= j -> (itr l i x).p ≠ emp) -> (itr l (j + 1) x).k = k -> lpR l k n x = true
 | 0, j, x, h, _, _ => by omega
 | n + 1, j, x, h, hp, hk => by
  have h0 : x.p ≠ emp := hp 0 (by omega)
  rw [lpR, if_neg h0]
  cases j with
  | zero =>
   have h1 : (a3l l x).k = k := hk
   rw [if_pos h1]
  | succ j =>
   split
   ·rfl
   ·exact c1O l k n j (a3l l x) (by omega) (fun i hi => hp (i + 1) (by omega)) hk
theorem c1i {l : List Alm} (h : afF l = 0) : caF l = 0 := by
 unfold afF at h
 unfold caF
 by_cases c1 : l.length > 200
 ·rw [if_pos c1] at h; omega
 rw [if_neg c1] at h ⊢
 by_cases c2 : a2v none l ≠ 0
 ·grind
 rw [if_neg c2] at h ⊢
 by_cases c3 : l.any (P7 l) = true
 ·rw [if_pos c3] at h; omega
 rw [if_neg c3] at h ⊢
 by_cases c4 : (l.any fun x => lpR l x.k l.length x) = true
 ·rw [if_pos c4] at h; omega
 rw [if_neg]
 intro hc
 apply c4
 obtain ⟨x, hx, hlen⟩ := List.any_eq_true.1 hc
 have hlen := of_decide_eq_true hlen
 have hl2 := a0U l (l.length + 1) x
 have hp := c1b l (l.length + 1) x (by omega)
 have hno : ∀ y ∈ l, y.p ≠ emp -> 0 <= v7 l y.p ∧ v7 l y.p < l.length := fun y hy hyp => by
  rcases S3 l y.p with h1 | h1
  ·exact absurd (List.any_eq_true.2 ⟨y, hy, decide_eq_true ⟨hyp, by omega⟩⟩) c3
  ·exact h1
 have hmem : ∀ j, j <= l.length -> itr l j x ∈ l := fun j => by
  induction j with
  | zero => intro _; exact hx
  | succ j ih =>
   intro hj
   have h1 := ih (by omega)
   have h2 := hno _ h1 (hp j (by omega))
   rw [X1]
   exact f8 l _ (by omega)
 obtain ⟨a, b, hab, hb, he⟩ := c0H l.length (fun j => (v7 l (itr l j x).p).toNat) (fun j hj => by
  have := hno _ (hmem j hj) (hp j (by omega))
  omega)
 have e1 : itr l (a + 1) x = itr l (b + 1) x := by
  rw [X1, X1]; unfold a3l
  rw [he]
 refine List.any_eq_true.2 ⟨itr l (a + 1) x, hmem _ (by omega), ?_⟩
 refine c1O l _ l.length (b - a - 1) _ (by omega) (fun i hi => ?_) ?_
 ·rw [<- a2X]; exact hp _ (by omega)
 ·rw [<- a2X, show a + 1 + (b - a - 1 + 1) = b + 1 by omega, <- e1]
structure Ser where
 t : ByteArray
 l : List Smp
instance : Inhabited Ser := ⟨⟨emp, []⟩⟩
def b5u (fr : Bool) (x : Ser) : List Cel := [.g (.string x.t), .sl fr 3 (x.l.map a6r)]
theorem a1w (fr : Bool) (x : Ser) : b5u fr x = [.g (.string x.t), .sl fr 3 (x.l.map a6r)] := (rfl)
attribute [go_sem] a1w
abbrev B1 (fr : Bool) (l : List Ser) : Val := .one (.sl fr 2 (l.map (b5u true)))
def b0Y : Option ByteArray -> List Ser -> Int
 | _, [] => 0
 | pv, x :: r => if l8 x.t = false then 5 else if D7 pv x.t = true then 7 else if n6 x.l ≠ 0 then n6 x.l else b0Y (some x.t) r
def asF (s : List Ser) : Int := if s.length > 200 then 2 else b0Y none s
structure Opr where
 b : ByteArray
 no : Int
 at_ : Int
 kd : Int
 al : ByteArray
 un : Int
instance : Inhabited Opr := ⟨⟨emp, 0, 0, 0, emp, 0⟩⟩
def O4 (x : Opr) : List Cel := [.g (.string x.b), .g (.int .i64 x.no), .g (.int .i64 x.at_), .g (.int .i64 x.kd), .g (.string x.al), .g (.int .i64 x.un)]
theorem s9 (x : Opr) : O4 x = [.g (.string x.b), .g (.int .i64 x.no), .g (.int .i64 x.at_), .g (.int .i64 x.kd), .g (.string x.al), .g (.int .i64 x.un)] := (rfl)
attribute [go_sem] s9
abbrev F7 (fr : Bool) (l : List Opr) : Val := .one (.sl fr 6 (l.map O4))
def opF (x : Opr) : Int := if l8 x.b = false then 5 else if (x.no < 1 ∨ x.no > 2000) ∨ (x.at_ < 0 ∨ x.at_ >= 345686400000) then 1 else if x.kd < 1 ∨ x.kd > 3 then 4 else if l8 x.al = false then 5 else if x.kd = 2 ∧ (x.un <= x.at_ ∨ x.un > 345686400000) then 1 else if x.kd ≠ 2 ∧ x.un ≠ 0 then 3 else 0
def d4G (a b : Int) : Int := if a < b then -1 else if a > b then 1 else 0
def a2e (x y : Opr) : Int := if a0u x.b y.b ≠ 0 then a0u x.b y.b else d4G x.no y.no
theorem b2M (x y : Opr) : a2e x y = -a2e y x := by
 have h : a0u x.b y.b = -a0u y.b x.b := by
  rcases L5 x.b y.b with ⟨h1, h2⟩ | ⟨h1, h2⟩ | ⟨h1, h2⟩ <;> rcases L5 y.b x.b with ⟨h3, h4⟩ | ⟨h3, h4⟩ | ⟨h3, h4⟩ <;> first | omega | (exfalso; rw [h2] at h4; exact r8 _ h4) | (exfalso; rw [h4] at h2; exact r8 _ h2) | exact absurd h4 (M6 h2)
 unfold a2e d4G
 grind
def c0V : Option Opr -> Opr -> Bool
 | none, _ => false
 | some y, x => decide (0 <= a2e y x)
def b1x : Option Opr -> Opr -> Bool
 | none, _ => false
 | some y, x => decide (y.b = x.b ∧ x.at_ < y.at_)
def a5W : Option Opr -> List Opr -> Int
 | _, [] => 0
 | pv, x :: r => if opF x ≠ 0 then opF x else if c0V pv x = true then 7 else a5W (some x) r
def b0L : Option Opr -> List Opr -> Bool
 | _, [] => false
 | pv, x :: r => b1x pv x || b0L (some x) r
def ofF (a : List Opr) : Int := if a.length > 2000 then 2 else if a5W none a ≠ 0 then a5W none a else if b0L none a = true then 7 else 0
section
variable {α : Type} [Inhabited α] {f : α -> ByteArray} {l : List α} {key : ByteArray}
def a0w (f : α -> ByteArray) (l : List α) : Prop := ∀ i j, i < j -> j < l.length -> ltS (f (l.getD i default)) (f (l.getD j default))
theorem a7t (p : α -> Bool) : ∀ (l : List α) (k : Int) (i : Nat), i < l.length -> (∀ j, j < i -> p (l.getD j default) = false) -> p (l.getD i default) = true -> D3 p k l = k + i
 | [], k, i, h, _, _ => by simp at h
 | x :: l, k, 0, _, _, h => by
  have : p x = true := by simpa using h
  rw [D3, if_pos this]; simp
 | x :: l, k, i + 1, h, h1, h2 => by
  have hx : p x = false := by simpa using h1 0 (by omega)
  rw [D3, if_neg (by simp [hx]), a7t p l (k + 1) i (by simpa using h) (fun j hj => by simpa using h1 (j + 1) (by omega)) (by simpa using h2)]
  omega
theorem b3f (p : α -> Bool) : ∀ (l : List α) (k : Int), (∀ j, j < l.length -> p (l.getD j default) = false) -> D3 p k l = -1
 | [], k, _ => rfl
 | x :: l, k, h => by
  have hx : p x = false := by simpa using h 0 (by simp)
  rw [D3, if_neg (by simp [hx])]
  exact b3f p l (k + 1) fun j hj => by simpa using h (j + 1) (by simpa using hj)
theorem b2Q (ha : a0w f l) {i : Nat} (h : i <= l.length) (h1 : ∀ j, j < i -> ltS (f (l.getD j default)) key) (h2 : ∀ j, i <= j -> j < l.length -> ¬ltS (f (l.getD j default)) key) :
  D3 (fun x => decide (f x = key)) 0 l = if i < l.length ∧ f (l.getD i default) = key then (i : Int) else -1 := by
 split
 ·rename_i hc
  rw [a7t (fun x => decide (f x = key)) l 0 i hc.1 (fun j hj => decide_eq_false fun e => r8 key (by have := h1 j hj; rwa [e] at this)) (decide_eq_true hc.2)]
  omega
 ·rename_i hc
  refine b3f _ l 0 fun j hj => decide_eq_false fun e => ?_
  by_cases hji : j < i
  ·have := h1 j hji
   rw [e] at this; exact r8 _ this
  ·by_cases e2 : j = i
   ·grind
   ·have h3 := ha i j (by omega) hj
    grind
theorem c7L (ha : a0w f l) {i j : Nat} (hij : i <= j) (hj : j < l.length) (h : ltS (f (l.getD j default)) key) : ltS (f (l.getD i default)) key := by
 by_cases e : i = j
 ·subst e; exact h
 ·exact P3 (ha i j (by omega) hj) h
end
/-! ### right alarms -/
def b4S {α : Type} [Inhabited α] (f : α -> ByteArray) (l : List α) : Prop := ∀ i, i + 1 < l.length -> ltS (f (l.getD i default)) (f (l.getD (i + 1) default))
theorem S5 {α : Type} [Inhabited α] {f : α -> ByteArray} {l : List α} (h : b4S f l) : a0w f l := by
 intro i j hij hj
 induction j with
 | zero => omega
 | succ j ih =>
  by_cases e : i = j
  ·subst e; exact h i hj
  ·exact P3 (ih (by omega) (by omega)) (h j hj)
structure J4 (l : List Alm) : Prop where
 len : l.length <= 200
 flt : ∀ i, i < l.length -> (l.getD i default).flt = 0
 up : a0w Alm.k l
 par : ∀ x ∈ l, x.p ≠ emp -> 0 <= v7 l x.p ∧ v7 l x.p < l.length
 chn : ∀ x ∈ l, (G9 l (l.length + 1) x).length <= l.length
theorem a4q : ∀ (l : List Alm) (pv : Option ByteArray), a2v pv l = 0 -> (∀ i, i < l.length -> (l.getD i default).flt = 0) ∧ b4S Alm.k l ∧ (∀ q, pv = some q -> 0 < l.length -> ltS q (l.getD 0 default).k)
 | [], pv, _ => ⟨fun i h => by simp at h, fun i h => by simp at h, fun q _ h => by simp at h⟩
 | x :: r, pv, h => by
  rw [a2v] at h
  by_cases c1 : x.flt ≠ 0
  ·grind
  ·rw [if_neg c1] at h
   by_cases c2 : D7 pv x.k = true
   ·rw [if_pos c2] at h; omega
   ·rw [if_neg c2] at h
    obtain ⟨h1, h2, h3⟩ := a4q r (some x.k) h
    refine ⟨fun i hi => ?_, fun i hi => ?_, fun q hq _ => ?_⟩
    ·grind
    ·cases i with
     | zero => simpa using h3 x.k rfl (by simpa using hi)
     | succ i => simpa using h2 i (by simpa using hi)
    ·subst hq
     simpa [D7] using c2
theorem c0t {l : List Alm} (h : afF l = 0) : J4 l := by
 have hc := c1i h
 unfold afF at h
 unfold caF at hc
 by_cases c1 : l.length > 200
 ·rw [if_pos c1] at h; omega
 rw [if_neg c1] at h hc
 by_cases c2 : a2v none l ≠ 0
 ·grind
 rw [if_neg c2] at h hc
 by_cases c3 : l.any (P7 l) = true
 ·rw [if_pos c3] at h; omega
 rw [if_neg c3] at hc
 obtain ⟨h1, h2, _⟩ := a4q l none (by omega)
 refine ⟨by omega, h1, S5 h2, fun x hx hp => ?_, fun x hx => ?_⟩
 ·rcases S3 l x.p with h3 | h3
  ·exact absurd (List.any_eq_true.2 ⟨x, hx, decide_eq_true ⟨hp, by omega⟩⟩) c3
  ·exact h3
 ·all_goals grind
structure a2o (s : List Ser) : Prop where
 len : s.length <= 200
 key : ∀ i, i < s.length -> l8 (s.getD i default).t = true
 ser : ∀ i, i < s.length -> n6 (s.getD i default).l = 0
 up : a0w Ser.t s
theorem b4I : ∀ (l : List Ser) (pv : Option ByteArray), b0Y pv l = 0 -> (∀ i, i < l.length -> l8 (l.getD i default).t = true ∧ n6 (l.getD i default).l = 0) ∧ b4S Ser.t l ∧ (∀ q, pv = some q -> 0 < l.length -> ltS q (l.getD 0 default).t)
 | [], pv, _ => ⟨fun i h => by simp at h, fun i h => by simp at h, fun q _ h => by simp at h⟩
 | x :: r, pv, h => by
  rw [b0Y] at h
  by_cases c1 : l8 x.t = false
  ·rw [if_pos c1] at h; omega
  ·rw [if_neg c1] at h
   by_cases c2 : D7 pv x.t = true
   ·rw [if_pos c2] at h; omega
   ·rw [if_neg c2] at h
    by_cases c3 : n6 x.l ≠ 0
    ·grind
    ·rw [if_neg c3] at h
     obtain ⟨h1, h2, h3⟩ := b4I r (some x.t) h
     refine ⟨fun i hi => ?_, fun i hi => ?_, fun q hq _ => ?_⟩
     ·grind
     ·cases i with
      | zero => simpa using h3 x.t rfl (by simpa using hi)
      | succ i => simpa using h2 i (by simpa using hi)
     ·subst hq
      simpa [D7] using c2
theorem b8k {s : List Ser} (h : asF s = 0) : a2o s := by
 unfold asF at h
 split at h
 ·omega
 ·obtain ⟨h1, h2, _⟩ := b4I s none h
  exact ⟨by omega, fun i hi => (h1 i hi).1, fun i hi => (h1 i hi).2, S5 h2⟩
theorem c2r (kb tb pb : ByteArray) (lt : Bool) (hkb : kb.size <= 9223372036854775807) (htb : tb.size <= 9223372036854775807) (kd lim db on off pr : Int) : FC Tryz.prog 36 none [b6K kb tb pb lt kd lim db on off pr] (fun _ r => r = iv (a4l (l8 kb && l8 tb) kd lim db on off pr)) := by
 refine fcE Tryz.func36 (aM [1] [] [[1],[1,3]] ++ aL [[2]] ++ aM [1] [] [[1,14]] ++ aL [[2]] ++ aM [1] [] [[1,19]] ++ aL [[2],[48],[2],[2]]) ?_
 refine qc (a1t kb hkb) ?_
 cases hk1 : l8 kb with
 | false =>
  rw [Bool.false_and]
  refine qv ?_
  exact j8 (by unfold a4l; rw [if_pos rfl])
 | true =>
 rw [Bool.true_and]
 refine qc (a1t tb htb) ?_
 cases hk2 : l8 tb with
 | false =>
  refine qv ?_
  exact j8 (by unfold a4l; rw [if_pos rfl])
 | true =>
 have eg : a4l true kd lim db on off pr = a1W kd lim db on off pr := by unfold a4l; rw [if_neg (by simp)]
 rw [eg]
 refine qc (G0 _ _ _) ?_
 by_cases h0 : kd < 1 ∨ kd > 3
 ·rw [decide_eq_false (show ¬(1 <= kd ∧ kd <= 3) by omega)]
  refine qv ?_
  exact j8 (by unfold a1W; rw [if_pos h0])
 rw [decide_eq_true (show 1 <= kd ∧ kd <= 3 by omega)]
 refine qc (a3m _) ?_
 unfold c6E
 by_cases h1 : lim < -1000000 ∨ lim > 1000000
 ·rw [if_neg (show ¬(-1000000 <= lim ∧ lim <= 1000000) by omega)]
  refine qv ?_
  exact j8 (by unfold a1W; rw [if_neg h0, if_pos (by omega)])
 rw [if_pos (show -1000000 <= lim ∧ lim <= 1000000 by omega)]
 refine qc (G0 _ _ _) ?_
 by_cases h2 : db < 0 ∨ db > 2000000
 ·rw [decide_eq_false (show ¬(0 <= db ∧ db <= 2000000) by omega)]
  refine qv ?_
  exact j8 (by unfold a1W; rw [if_neg h0, if_pos (by omega)])
 rw [decide_eq_true (show 0 <= db ∧ db <= 2000000 by omega)]
 refine qc (G0 _ _ _) ?_
 by_cases h3 : on < 0 ∨ on > 86400000
 ·rw [decide_eq_false (show ¬(0 <= on ∧ on <= 86400000) by omega)]
  refine qv ?_
  exact j8 (by unfold a1W; rw [if_neg h0, if_pos (by omega)])
 rw [decide_eq_true (show 0 <= on ∧ on <= 86400000 by omega)]
 refine qc (G0 _ _ _) ?_
 by_cases h4 : off < 0 ∨ off > 86400000
 ·rw [decide_eq_false (show ¬(0 <= off ∧ off <= 86400000) by omega)]
  refine qv ?_
  exact j8 (by unfold a1W; rw [if_neg h0, if_pos (by omega)])
 rw [decide_eq_true (show 0 <= off ∧ off <= 86400000 by omega)]
 refine qc (G0 _ _ _) ?_
 by_cases h5 : pr < 1 ∨ pr > 1000
 ·rw [decide_eq_false (show ¬(1 <= pr ∧ pr <= 1000) by omega)]
  refine qv ?_
  exact j8 (by unfold a1W; rw [if_neg h0, if_pos (by omega)])
 rw [decide_eq_true (show 1 <= pr ∧ pr <= 1000 by omega)]
 have e : a1W kd lim db on off pr = if kd = 3 ∧ (lim ≠ 0 ∨ db ≠ 0) then 3 else 0 := by unfold a1W; rw [if_neg h0, if_neg (by omega)]
 rw [e]
 by_cases h6 : kd = 3
 ·by_cases h7 : lim = 0
  ·by_cases h8 : db = 0
   ·rw [if_neg (by omega)]
    exact qt
   ·rw [if_pos (by omega)]
    exact qt
  ·rw [if_pos (by omega)]
   exact qt
 ·rw [if_neg (by omega)]
  exact qt
def d1e (key : ByteArray) (l : List Alm) (i : Int) : AS := ⟨m7 [(0, r6 false l), (1, .one (.fn 73 [.ep [.g (.string key)]])), (7, iv l.length), (8, iv i)], f7 [], f7 []⟩
theorem c4y (key : ByteArray) (x : Alm) : FC Tryz.prog 73 none [.ag (D0 x), .one (.ep [.g (.string key)])] (fun _ r => r = bv (decide (x.k = key))) := by
 refine fcE Tryz.func73 [aN [1,2] [2] [],aN [3] [] []] ?_
 exact qts
theorem b5M (key : ByteArray) (l : List Alm) (hl : l.length <= 1000000) : FC Tryz.prog 72 none [r6 false l, .one (.fn 73 [.ep [.g (.string key)]])] (fun _ r => r = iv (v7 l key)) := by
 refine fcE Tryz.func72 (aL [[0,1],[0,1,7,8],[0,1,7,8,9],[0,1,5,7,8],[0,1,5,7,8,16],[4],[0,1,7,8],[4]]) ?_
 refine qvs ?_
 refine l0 (d1e key l) (fun i => 0 <= i ∧ i <= l.length ∧ D3 (fun x : Alm => decide (x.k = key)) i (l.drop i.toNat) = v7 l key) (fun i => (l.length - i).toNat) 0 ⟨by omega, by omega, rfl⟩ rfl ?_
 rintro i ⟨g1, g2, g3⟩
 unfold d1e
 by_cases hi : i < l.length
 ·rw [m5 l i.toNat (by omega), D3] at g3
  have e2 : (i + 1).toNat = i.toNat + 1 := by omega
  have hc := c4y key (l.getD i.toNat default)
  rw [j9] at hc
  refine qcs hc ?_
  by_cases h : (l.getD i.toNat default).k = key
  ·rw [if_pos (decide_eq_true h)] at g3
   rw [decide_eq_true h]
   refine qvs ?_
   rw [<- g3]
  ·rw [if_neg (by simpa using h)] at g3
   rw [decide_eq_false h]
   refine qvs ?_
   exact ⟨_, rfl, ⟨by omega, by omega, by rw [e2]; exact g3⟩, by omega⟩
 ·rw [List.drop_eq_nil_of_le (by omega), D3] at g3
  refine qvs ?_
  rw [<- g3]
theorem R3 (key : ByteArray) (l : List Alm) (hl : l.length <= 1000000) : FC Tryz.prog 37 none [r6 false l, sv key] (fun _ r => r = iv (v7 l key)) := by
 refine fcE Tryz.func37 [aN [0,3] [3] [],aN [4] [] []] ?_
 refine qcs (b5M key l hl) ?_
 exact qts
def b6s (l : List Alm) (i : Nat) : Option ByteArray := if i = 0 then none else some (l.getD (i - 1) default).k
theorem a4w (l : List Alm) (i : Nat) : b6s l (i + 1) = some (l.getD i default).k := rfl
theorem a8u {a b : ByteArray} : (ltS a b ∨ a = b) ↔ ¬ltS b a := by
 constructor
 ·rintro (h | h)
  ·exact M6 h
  ·subst h; exact r8 _
 ·intro h
  rcases c1x a b with h1 | h1 | h1
  ·exact .inl h1
  ·exact .inr h1
  ·exact absurd h1 h
def c8K (l : List Alm) (i : Int) : AS := ⟨m7 [(0, r6 false l), (14, r6 false l), (15, iv l.length), (16, iv i)], f7 [], f7 []⟩
def c8D (l : List Alm) (i : Int) : AS := ⟨m7 [(0, r6 false l), (40, r6 false l), (41, iv l.length), (42, iv i)], f7 [], f7 []⟩
def d1b (l : List Alm) (i : Int) : AS := ⟨m7 [(0, r6 false l), (57, r6 false l), (58, iv l.length), (59, iv i)], f7 [], f7 []⟩
def c4P (l : List Alm) (i : Int) (x y : Alm) (j : Int) : AS := ⟨m7 [(0, r6 false l), (9, .one (.bx 9 0)), (10, .one (.bx 10 0)), (57, r6 false l), (58, iv l.length), (59, iv i), (65, iv l.length), (66, iv j)], f7 [(9, D0 x), (10, D0 y)], f7 []⟩
theorem a1r (l : List Alm) (hl : l.length <= 1000000) (hsm : ∀ x ∈ l, x.k.size <= 1000000 ∧ x.t.size <= 1000000) : FC Tryz.prog 11 none [r6 false l] (fun _ r => r = iv (afF l)) := by
 refine fcE Tryz.func11 (aL [[0],[0,13],[2],[0,14,15,16],[0,14,15,16,17]] ++ aM [4] [] [[0,3,4,14,15,16],[0,3,4,5,14,15,16],[0,3,4,5,14,15,16,24]] ++ aL [[2],[0,14,15,16,38],[2],[0,14,15,16],[0,40,41,42],[0,40,41,42,43]] ++ aM [7] [] [[0,7,40,41,42]] ++ aL [[0,40,41,42,55],[2],[0,40,41,42],[0,57,58,59],[0,57,58,59,60]] ++ aM [9] [] [[0,9,57,58,59]] ++ aM [9,10] [] [[0,9,10,57,58,59],[0,9,10,57,58,59,65,66],[0,9,10,57,58,59,65,66,67],[0,9,10,57,58,59,65,66,70],[0,9,10,57,58,59,65,66],[0,9,10,57,58,59,65,66,82]] ++ aL [[2]] ++ aM [9,10] [] [[0,9,10,57,58,59,65,66]] ++ aL [[0,57,58,59],[2]]) ?_
 unfold afF
 by_cases c0 : l.length > 200
 ·rw [if_pos c0]
  exact qts
 rw [if_neg c0]
 refine qvs ?_
 refine l0 (c8K l) (fun i => 0 <= i ∧ i <= l.length ∧ a2v (b6s l i.toNat) (l.drop i.toNat) = a2v none l) (fun i => (l.length - i).toNat) 0 ⟨by omega, by omega, rfl⟩ rfl ?_
 rintro i ⟨g1, g2, g3⟩
 unfold c8K
 by_cases hi : i < l.length
 ·have e2 : (i + 1).toNat = i.toNat + 1 := by omega
  have hm := hsm _ (f8 l i.toNat (by omega))
  rw [m5 l i.toNat (by omega), a2v, <- e2] at g3
  have hc := c2r (l.getD i.toNat default).k (l.getD i.toNat default).t (l.getD i.toNat default).p (l.getD i.toNat default).lt (by omega) (by omega) (l.getD i.toNat default).kd (l.getD i.toNat default).lim (l.getD i.toNat default).db (l.getD i.toNat default).on (l.getD i.toNat default).off (l.getD i.toNat default).pr
  rw [show a4l (l8 (l.getD i.toNat default).k && l8 (l.getD i.toNat default).t) (l.getD i.toNat default).kd (l.getD i.toNat default).lim (l.getD i.toNat default).db (l.getD i.toNat default).on (l.getD i.toNat default).off (l.getD i.toNat default).pr = (l.getD i.toNat default).flt from rfl] at hc
  by_cases c1 : (l.getD i.toNat default).flt ≠ 0
  ·rw [if_pos c1] at g3
   rw [<- g3, if_pos c1]
   refine qcs hc ?_
   exact qts
  ·rw [if_neg c1] at g3
   by_cases hi0 : 0 < i
   ·have ep := e8 D0 l (i - 1) [] (by omega) (by omega)
    have e4 : b6s l i.toNat = some (l.getD (i - 1).toNat default).k := by
     unfold b6s; rw [if_neg (by omega)]
     rw [show i.toNat - 1 = (i - 1).toNat by omega]
    rw [e4] at g3
    have ho := a8u (a := (l.getD i.toNat default).k) (b := (l.getD (i - 1).toNat default).k)
    by_cases c2 : ltS (l.getD (i - 1).toNat default).k (l.getD i.toNat default).k
    ·rw [if_neg (show ¬(D7 (some (l.getD (i - 1).toNat default).k) (l.getD i.toNat default).k = true) from fun h => (of_decide_eq_true h) c2)] at g3
     have h5 : ¬(ltS (l.getD i.toNat default).k (l.getD (i - 1).toNat default).k ∨ (l.getD i.toNat default).k = (l.getD (i - 1).toNat default).k) := fun h => (ho.1 h) c2
     have hd := decide_eq_false h5
     refine qcs hc ?_
     refine qvs ?_
     exact ⟨i + 1, rfl, ⟨by omega, by omega, by rw [e2, a4w, <- e2]; exact g3⟩, by omega⟩
    ·rw [if_pos (show D7 (some (l.getD (i - 1).toNat default).k) (l.getD i.toNat default).k = true from decide_eq_true c2)] at g3
     have h5 := ho.2 c2
     rw [<- g3, if_pos (by omega)]
     refine qcs hc ?_
     exact qts
   ·have e0 : i = 0 := by omega
    subst e0
    rw [show b6s l (Int.toNat 0) = none from rfl, if_neg (by simp [D7])] at g3
    refine qcs hc ?_
    refine qvs ?_
    exact ⟨1, rfl, ⟨by omega, by omega, g3⟩, by omega⟩
 ·rw [List.drop_eq_nil_of_le (by omega), a2v] at g3
  rw [if_neg (show ¬(a2v none l ≠ 0) by omega)]
  refine qvs ?_
  refine l0 (c8D l) (fun i => 0 <= i ∧ i <= l.length ∧ (l.drop i.toNat).any (P7 l) = l.any (P7 l)) (fun i => (l.length - i).toNat) 0 ⟨by omega, by omega, rfl⟩ rfl ?_
  rintro i ⟨g1, g2, g3⟩
  unfold c8D
  by_cases hi : i < l.length
  ·have e2 : (i + 1).toNat = i.toNat + 1 := by omega
   rw [m5 l i.toNat (by omega), List.any_cons, <- e2] at g3
   have hc := R3 (l.getD i.toNat default).p l hl
   by_cases c1 : (l.getD i.toNat default).p = emp
   ·rw [show P7 l (l.getD i.toNat default) = false from decide_eq_false (fun h => h.1 c1), Bool.false_or] at g3
    have c1' : ¬¬(l.getD i.toNat default).p = emp := fun h => h c1
    refine qvs ?_
    exact ⟨i + 1, rfl, ⟨by omega, by omega, g3⟩, by omega⟩
   ·by_cases c2 : v7 l (l.getD i.toNat default).p < 0
    ·rw [show P7 l (l.getD i.toNat default) = true from decide_eq_true ⟨c1, c2⟩, Bool.true_or] at g3
     rw [if_pos g3.symm]
     refine qcs hc ?_
     exact qts
    ·rw [show P7 l (l.getD i.toNat default) = false from decide_eq_false (fun h => c2 h.2), Bool.false_or] at g3
     refine qcs hc ?_
     refine qvs ?_
     exact ⟨i + 1, rfl, ⟨by omega, by omega, g3⟩, by omega⟩
  ·rw [List.drop_eq_nil_of_le (by omega), List.any_nil] at g3
   have hno : ∀ x ∈ l, x.p ≠ emp -> 0 <= v7 l x.p ∧ v7 l x.p < l.length := fun x hx hp => by
    rcases S3 l x.p with h | h
    ·have : l.any (P7 l) = true := List.any_eq_true.2 ⟨x, hx, decide_eq_true (p := x.p ≠ emp ∧ v7 l x.p < 0) ⟨hp, by omega⟩⟩
     rw [<- g3] at this
     cases this
    ·exact h
   rw [if_neg (by rw [<- g3]; simp)]
   clear g3
   refine qvs ?_
   refine l0 (d1b l) (fun i => 0 <= i ∧ i <= l.length ∧ ((l.drop i.toNat).any fun x => lpR l x.k l.length x) = (l.any fun x => lpR l x.k l.length x)) (fun i => (l.length - i).toNat) 0 ⟨by omega, by omega, rfl⟩ rfl ?_
   rintro i ⟨g1, g2, g3⟩
   unfold d1b
   by_cases hi : i < l.length
   ·have e2 : (i + 1).toNat = i.toNat + 1 := by omega
    have hxm := f8 l i.toNat (by omega)
    rw [m5 l i.toNat (by omega), List.any_cons, <- e2] at g3
    refine qvs ?_
    refine j7 (fun j y => c4P l i (l.getD i.toNat default) y j) (fun j y => 0 <= j ∧ j <= l.length ∧ y ∈ l ∧ lpR l (l.getD i.toNat default).k (l.length - j.toNat) y = lpR l (l.getD i.toNat default).k l.length (l.getD i.toNat default)) (fun j _ => (l.length - j).toNat) 0 (l.getD i.toNat default) ⟨by omega, by omega, hxm, by simp⟩ ?_ ?_
    ·unfold c4P; simp only [j9]
    rintro j y ⟨h1, h2, h3, h4⟩
    generalize l.getD i.toNat default = x at *
    unfold c4P
    by_cases hj : j < l.length
    ·rw [show l.length - j.toNat = (l.length - (j + 1).toNat) + 1 by omega, lpR] at h4
     by_cases c1 : y.p = emp
     ·rw [if_pos c1] at h4
      rw [<- h4, Bool.false_or] at g3
      refine qvs ?_
      exact ⟨i + 1, rfl, ⟨by omega, by omega, g3⟩, by omega⟩
     ·rw [if_neg c1] at h4
      have hix := hno y h3 c1
      have hc := R3 y.p l hl
      have hpm : a3l l y ∈ l := f8 l _ (by omega)
      have epo : l.getD (v7 l y.p).toNat default = a3l l y := rfl
      rw [<- epo] at h4 hpm
      by_cases c2 : (l.getD (v7 l y.p).toNat default).k = x.k
      ·rw [if_pos c2] at h4
       rw [<- h4, Bool.true_or] at g3
       rw [if_pos g3.symm]
       refine qcs hc ?_
       exact qts
      ·rw [if_neg c2] at h4
       refine qcs hc ?_
       refine qvs ?_
       exact ⟨j + 1, l.getD (v7 l y.p).toNat default, by simp only [j9], ⟨by omega, by omega, hpm, h4⟩, by omega⟩
    ·rw [show l.length - j.toNat = 0 by omega, lpR] at h4
     rw [<- h4, Bool.false_or] at g3
     refine qvs ?_
     exact ⟨i + 1, rfl, ⟨by omega, by omega, g3⟩, by omega⟩
   ·rw [List.drop_eq_nil_of_le (by omega), List.any_nil] at g3
    rw [if_neg (by rw [<- g3]; simp)]
    exact qts
theorem a2l (l : List Alm) (hl : l.length <= 1000000) (hsm : ∀ x ∈ l, x.sm) : FC Tryz.prog 11 none [r6 false l] (fun _ r => r = iv (afF l)) :=
 a1r l hl fun x hx => by have h := hsm x hx; unfold Alm.sm at h; omega
theorem d5I {α : Type} [Inhabited α] {f : α -> ByteArray} {l : List α} {key : ByteArray} (ha : a0w f l) : ∃ p : Nat, p <= l.length ∧ (∀ j, j < p -> ltS (f (l.getD j default)) key) ∧ (∀ j, p <= j -> j < l.length -> ¬ltS (f (l.getD j default)) key) := by
 have h : ∀ n, n <= l.length -> ∃ p : Nat, p <= n ∧ (∀ j, j < p -> ltS (f (l.getD j default)) key) ∧ (∀ j, p <= j -> j < n -> ¬ltS (f (l.getD j default)) key) := by
  intro n
  induction n with
  | zero => intro _; exact ⟨0, Nat.le_refl _, fun j hj => by omega, fun j _ hj => by omega⟩
  | succ n ih =>
   intro hn
   obtain ⟨p, h1, h2, h3⟩ := ih (by omega)
   by_cases c : ltS (f (l.getD n default)) key
   ·refine ⟨n + 1, Nat.le_refl _, fun j hj => c7L ha (show j <= n by omega) (by omega) c, fun j h4 h5 => by omega⟩
   ·refine ⟨p, by omega, h2, fun j h4 h5 => ?_⟩
    by_cases e : j = n
    ·subst e; exact c
    ·exact h3 j h4 (by omega)
 exact h l.length (Nat.le_refl _)
theorem a7N (key : ByteArray) (x : Alm) : FC Tryz.prog 134 none [.ag (D0 x), sv key] (fun _ r => r = iv (a0u x.k key)) := by
 refine fcE Tryz.func134 [aN [1,2] [2] [],aN [4] [] []] ?_
 refine qc (a1i _ _) ?_
 exact qt
def d1I (key : ByteArray) (l : List Alm) (i j : Int) : AS := ⟨m7 [(0, r6 false l), (1, sv key), (2, .one (.fn 134 [])), (8, iv l.length), (9, iv i), (10, iv j)], f7 [], f7 []⟩
theorem c9y (key : ByteArray) (l : List Alm) (hl : l.length <= 1000000) (ha : a0w Alm.k l) : ∃ i : Nat, i <= l.length ∧ (∀ j, j < i -> ltS (l.getD j default).k key) ∧ (∀ j, i <= j -> j < l.length -> ¬ltS (l.getD j default).k key) ∧
  FC Tryz.prog 133 none [r6 false l, sv key, .one (.fn 134 [])] (fun _ r => r = .tu [iv i, bv (decide (i < l.length ∧ (l.getD i default).k = key))]) := by
 obtain ⟨p, hp1, hp2, hp3⟩ : ∃ p : Nat, p <= l.length ∧ (∀ j, j < p -> ltS (l.getD j default).k key) ∧ (∀ j, p <= j -> j < l.length -> ¬ltS (l.getD j default).k key) := d5I ha
 refine ⟨p, hp1, hp2, hp3, ?_⟩
 refine fcE Tryz.func133 (aL [[0,1,2],[0,1,2,8],[0,1,2,8,9,10],[0,1,2,8,9,10,17],[0,1,2,8,9,10,11],[0,1,2,8,9,10,11,31],[0,1,2,8,9,10],[0,1,2,8,9,10],[6,7]]) ?_
 refine qv ?_
 refine j7 (d1I key l) (fun i j => 0 <= i ∧ i <= p ∧ (p : Int) <= j ∧ j <= l.length) (fun i j => (j - i).toNat) 0 l.length ⟨by omega, by omega, by omega, by omega⟩ rfl ?_
 rintro i j ⟨g1, g2, g3, g4⟩
 unfold d1I
 have eh : IntKind.i64.wrap ((i + j).fdiv (2 ^ min (Int.toNat 1) 64)) = (i + j) / 2 := by
  have : (i + j).fdiv (2 ^ min (Int.toNat 1) 64) = (i + j) / 2 := Int.fdiv_eq_ediv_of_nonneg _ (by decide)
  rw [this, wrap_i64 _ (by omega) (by omega)]
 by_cases hij : i < j
 ·have em := e8 D0 l ((i + j) / 2) [] (by omega) (by omega)
  have hc := a7N key (l.getD ((i + j) / 2).toNat default)
  rw [j9] at hc
  refine qv ?_
  simp only [eh]
  refine m9 hc (.inl rfl) ?_
  by_cases c : ((i + j) / 2).toNat < p
  ·have h1 := hp2 _ c
   have h2 : a0u (l.getD ((i + j) / 2).toNat default).k key < 0 := by
    rcases L5 (l.getD ((i + j) / 2).toNat default).k key with ⟨h, e⟩ | ⟨h, _⟩ | ⟨_, h⟩
    ·rw [e] at h1; exact absurd h1 (r8 _)
    ·omega
    ·exact absurd h1 (M6 h)
   refine qv ?_
   exact ⟨(i + j) / 2 + 1, j, rfl, ⟨by omega, by omega, by omega, by omega⟩, by omega⟩
  ·have h1 := hp3 _ (by omega) (show ((i + j) / 2).toNat < l.length by omega)
   have h2 : ¬a0u (l.getD ((i + j) / 2).toNat default).k key < 0 := by
    rcases L5 (l.getD ((i + j) / 2).toNat default).k key with ⟨h, e⟩ | ⟨_, h⟩ | ⟨h, _⟩
    ·omega
    ·exact absurd h h1
    ·omega
   refine qv ?_
   exact ⟨i, (i + j) / 2, rfl, ⟨by omega, by omega, by omega, by omega⟩, by omega⟩
 ·have ei : i = p := by omega
  subst ei
  by_cases c : p < l.length
  ·have em := e8 D0 l p [] (by omega) (by omega)
   rw [show ((p : Int)).toNat = p by omega] at em
   have hc := a7N key (l.getD p default)
   rw [j9] at hc
   refine qc hc ?_
   have h2 : a0u (l.getD p default).k key = 0 ↔ (l.getD p default).k = key := by
    rcases L5 (l.getD p default).k key with ⟨h, e⟩ | ⟨h, e⟩ | ⟨h, e⟩
    ·exact ⟨fun _ => e, fun _ => h⟩
    ·exact ⟨fun h3 => by omega, fun h3 => by rw [h3] at e; exact absurd e (r8 _)⟩
    ·exact ⟨fun h3 => by omega, fun h3 => by rw [h3] at e; exact absurd e (r8 _)⟩
   by_cases c2 : (l.getD p default).k = key
   ·rw [decide_eq_true (p := p < l.length ∧ (l.getD p default).k = key) ⟨c, c2⟩]
    have h3 := h2.2 c2
    refine qv ?_
    rw [decide_eq_true h3]
   ·rw [decide_eq_false (p := p < l.length ∧ (l.getD p default).k = key) (fun h => c2 h.2)]
    have h3 : ¬a0u (l.getD p default).k key = 0 := fun h => c2 (h2.1 h)
    refine qv ?_
    rw [decide_eq_false h3]
  ·rw [decide_eq_false (p := p < l.length ∧ (l.getD p default).k = key) (fun h => c h.1)]
   exact qt
theorem a3o (key : ByteArray) (l : List Alm) (hl : l.length <= 1000000) (ha : a0w Alm.k l) : FC Tryz.prog 85 none [r6 false l, sv key] (fun _ r => r = iv (v7 l key)) := by
 refine fcE Tryz.func85 (aL [[0,1],[5,6],[5,14],[4],[4]]) ?_
 obtain ⟨i, h1, h2, h3, hc⟩ := c9y key l hl ha
 have hi := b2Q ha h1 h2 h3
 rw [show D3 (fun x : Alm => decide (x.k = key)) 0 l = v7 l key from rfl] at hi
 rw [hi]
 by_cases c : i < l.length ∧ (l.getD i default).k = key
 ·rw [if_pos c]
  rw [decide_eq_true c] at hc
  refine qc hc ?_
  exact qt
 ·rw [if_neg c]
  rw [decide_eq_false c] at hc
  refine qc hc ?_
  exact qt
theorem b1S (key : ByteArray) (x : Ser) : FC Tryz.prog 94 none [.ag (b5u false x), sv key] (fun _ r => r = iv (a0u x.t key)) := by
 refine fcE Tryz.func94 [aN [1,2] [2] [],aN [4] [] []] ?_
 refine qc (a1i _ _) ?_
 exact qt
def d1g (key : ByteArray) (l : List Ser) (i j : Int) : AS := ⟨m7 [(0, B1 false l), (1, sv key), (2, .one (.fn 94 [])), (8, iv l.length), (9, iv i), (10, iv j)], f7 [], f7 []⟩
theorem c7T (key : ByteArray) (l : List Ser) (hl : l.length <= 1000000) (ha : a0w Ser.t l) : ∃ i : Nat, i <= l.length ∧ (∀ j, j < i -> ltS (l.getD j default).t key) ∧ (∀ j, i <= j -> j < l.length -> ¬ltS (l.getD j default).t key) ∧
  FC Tryz.prog 93 none [B1 false l, sv key, .one (.fn 94 [])] (fun _ r => r = .tu [iv i, bv (decide (i < l.length ∧ (l.getD i default).t = key))]) := by
 obtain ⟨p, hp1, hp2, hp3⟩ : ∃ p : Nat, p <= l.length ∧ (∀ j, j < p -> ltS (l.getD j default).t key) ∧ (∀ j, p <= j -> j < l.length -> ¬ltS (l.getD j default).t key) := d5I ha
 refine ⟨p, hp1, hp2, hp3, ?_⟩
 refine fcE Tryz.func93 (aL [[0,1,2],[0,1,2,8],[0,1,2,8,9,10],[0,1,2,8,9,10,17],[0,1,2,8,9,10,11],[0,1,2,8,9,10,11,31],[0,1,2,8,9,10],[0,1,2,8,9,10],[6,7]]) ?_
 refine qv ?_
 refine j7 (d1g key l) (fun i j => 0 <= i ∧ i <= p ∧ (p : Int) <= j ∧ j <= l.length) (fun i j => (j - i).toNat) 0 l.length ⟨by omega, by omega, by omega, by omega⟩ rfl ?_
 rintro i j ⟨g1, g2, g3, g4⟩
 unfold d1g
 have eh : IntKind.i64.wrap ((i + j).fdiv (2 ^ min (Int.toNat 1) 64)) = (i + j) / 2 := by
  have : (i + j).fdiv (2 ^ min (Int.toNat 1) 64) = (i + j) / 2 := Int.fdiv_eq_ediv_of_nonneg _ (by decide)
  rw [this, wrap_i64 _ (by omega) (by omega)]
 by_cases hij : i < j
 ·have em := e8 (b5u true) l ((i + j) / 2) [] (by omega) (by omega)
  have hc := b1S key (l.getD ((i + j) / 2).toNat default)
  rw [a1w] at hc
  refine qv ?_
  simp only [eh]
  refine m9 hc (.inl rfl) ?_
  by_cases c : ((i + j) / 2).toNat < p
  ·have h1 := hp2 _ c
   have h2 : a0u (l.getD ((i + j) / 2).toNat default).t key < 0 := by
    rcases L5 (l.getD ((i + j) / 2).toNat default).t key with ⟨h, e⟩ | ⟨h, _⟩ | ⟨_, h⟩
    ·rw [e] at h1; exact absurd h1 (r8 _)
    ·omega
    ·exact absurd h1 (M6 h)
   refine qv ?_
   exact ⟨(i + j) / 2 + 1, j, rfl, ⟨by omega, by omega, by omega, by omega⟩, by omega⟩
  ·have h1 := hp3 _ (by omega) (show ((i + j) / 2).toNat < l.length by omega)
   have h2 : ¬a0u (l.getD ((i + j) / 2).toNat default).t key < 0 := by
    rcases L5 (l.getD ((i + j) / 2).toNat default).t key with ⟨h, e⟩ | ⟨_, h⟩ | ⟨h, _⟩
    ·omega
    ·exact absurd h h1
    ·omega
   refine qv ?_
   exact ⟨i, (i + j) / 2, rfl, ⟨by omega, by omega, by omega, by omega⟩, by omega⟩
 ·have ei : i = p := by omega
  subst ei
  by_cases c : p < l.length
  ·have em := e8 (b5u true) l p [] (by omega) (by omega)
   rw [show ((p : Int)).toNat = p by omega] at em
   have hc := b1S key (l.getD p default)
   rw [a1w] at hc
   refine qc hc ?_
   have h2 : a0u (l.getD p default).t key = 0 ↔ (l.getD p default).t = key := by
    rcases L5 (l.getD p default).t key with ⟨h, e⟩ | ⟨h, e⟩ | ⟨h, e⟩
    ·exact ⟨fun _ => e, fun _ => h⟩
    ·exact ⟨fun h3 => by omega, fun h3 => by rw [h3] at e; exact absurd e (r8 _)⟩
    ·exact ⟨fun h3 => by omega, fun h3 => by rw [h3] at e; exact absurd e (r8 _)⟩
   by_cases c2 : (l.getD p default).t = key
   ·rw [decide_eq_true (p := p < l.length ∧ (l.getD p default).t = key) ⟨c, c2⟩]
    have h3 := h2.2 c2
    refine qv ?_
    rw [decide_eq_true h3]
   ·rw [decide_eq_false (p := p < l.length ∧ (l.getD p default).t = key) (fun h => c2 h.2)]
    have h3 : ¬a0u (l.getD p default).t key = 0 := fun h => c2 (h2.1 h)
    refine qv ?_
    rw [decide_eq_false h3]
  ·rw [decide_eq_false (p := p < l.length ∧ (l.getD p default).t = key) (fun h => c h.1)]
   exact qt
def c7l (s : List Ser) (tag : ByteArray) : Val := if 0 <= D3 (fun x : Ser => decide (x.t = tag)) 0 s then Z4 false (s.getD (D3 (fun x : Ser => decide (x.t = tag)) 0 s).toNat default).l else Z4 true []
theorem a2H (tag : ByteArray) (s : List Ser) (hl : s.length <= 1000000) (ha : a0w Ser.t s) : FC Tryz.prog 52 none [B1 false s, sv tag] (fun _ r => r = c7l s tag) := by
 refine fcE Tryz.func52 (aL [[0,1],[0,5,6],[0,5,14]] ++ [⟨(kP [4] [] []),[],[],[(4,3)],[]⟩] ++ aL [[4]]) ?_
 obtain ⟨i, h1, h2, h3, hc⟩ := c7T tag s hl ha
 have hi := b2Q ha h1 h2 h3
 unfold c7l
 rw [hi]
 by_cases c : i < s.length ∧ (s.getD i default).t = tag
 ·rw [if_pos c, if_pos (by omega), show ((i : Int)).toNat = i by omega]
  rw [decide_eq_true c] at hc
  have em := e8 (b5u true) s i [] (by omega) (by omega)
  rw [show ((i : Int)).toNat = i by omega] at em
  refine qc hc ?_
  exact qt
 ·rw [if_neg c, if_neg (by omega)]
  rw [decide_eq_false c] at hc
  refine qc hc ?_
  refine qv ?_
  rfl
def a0q : List Ann := (aM [3] [] [[0,3]] ++ [⟨(kP [0,3,5] [3] []),[(5,3,1)],[],[],[]⟩] ++ aM [3] [5] [[0,3,5,16],[0,3,5,6],[0,3,5,6],[0,3,5]] ++ aL [[4]])
def a0B : List Ann := (aL [[0],[0,12],[2],[0,13,14,15],[0,13,14,15,16]] ++ aM [4] [] [[0,3,4,13,14,15],[0,3,4,5,13,14,15],[0,3,4,5,13,14,15,23]] ++ aL [[2],[0,13,14,15,37],[2],[0,13,14,15],[0,39,40,41],[0,39,40,41,42]] ++ aM [7] [] [[0,7,39,40,41]] ++ aL [[0,39,40,41,54],[2],[0,39,40,41],[0,56,57,58],[0,56,57,58,59]] ++ aM [9] [] [[0,9,56,57,58]] ++ aL [[0,56,57,58,68],[2],[0,56,57,58],[2]])
def a3j : List Ann := (aL [[0],[0,8],[2],[0,9,10,11],[0,9,10,11,12]] ++ aM [4] [] [[0,3,4,9,10,11],[0,3,4,9,10,11,16]] ++ aL [[2]] ++ aM [4] [] [[0,4,9,10,11,21]] ++ aL [[2],[0,5,9,10,11],[0,5,9,10,11,39],[2],[0,9,10,11],[2]])
theorem d5Q : ((0 : Nat) < 1) = True := by simp
attribute [go_sem] d5Q
def b0M (l : List Alm) (y : Alm) (out : List Int) : AS := ⟨m7 [(0, r6 false l), (3, .one (.bx 3 0)), (5, .one (.ow 5 0))], f7 [(3, D0 y)], f7 [(5, ⟨0, 3, 1, out.map N3⟩)]⟩
theorem a9M (l : List Alm) (h : J4 l) (x : Alm) (hx : x ∈ l) : FC Tryz.prog 84 none [r6 false l, .ag (D0 x)] (fun _ r => r = W0 true (G9 l (l.length + 1) x)) := by
 refine fcE Tryz.func84 a0q ?_
 have hl := h.len
 simp only [j9]
 refine qv ?_
 refine j7 (fun (y : Alm) (out : List Int) => b0M l y out) (fun y out => y ∈ l ∧ out.length <= l.length + 1 ∧ out ++ G9 l (l.length + 1 - out.length) y = G9 l (l.length + 1) x) (fun _ out => l.length + 1 - out.length) x [] ⟨hx, by simp, by simp⟩ ?_ ?_
 ·unfold b0M
  simp only [j9, List.map_nil, AS.mk.injEq]
  refine ⟨?_, trivial, ?_⟩
  ·funext n
   simp only [a1F, a1e, a3B]
   by_cases h5 : n = 5
   ·subst h5; rfl
   ·simp only [h5, if_false]
  ·funext n; rfl
 rintro y out ⟨h1, h2, h3⟩
 unfold b0M
 by_cases c1 : y.p = emp
 ·have e : G9 l (l.length + 1 - out.length) y = [] := by
   cases hn : l.length + 1 - out.length with
   | zero => rfl
   | succ n => rw [G9, if_pos c1]
  rw [e, List.append_nil] at h3
  rw [<- h3]
  have c1' : ¬¬y.p = emp := fun h => h c1
  exact qts
 ·by_cases c2 : out.length <= l.length
  ·have hix := h.par y h1 c1
   have hc := a3o y.p l (by omega) h.up
   have hpm : a3l l y ∈ l := f8 l _ (by omega)
   rw [show l.length + 1 - out.length = (l.length + 1 - (out ++ [v7 l y.p]).length) + 1 by simp; omega, G9, if_neg c1] at h3
   have epo : a3l l y = l.getD (v7 l y.p).toNat default := rfl
   rw [epo] at h3 hpm
   refine qcs hc ?_
   refine qvs ?_
   refine ⟨l.getD (v7 l y.p).toNat default, out ++ [v7 l y.p], ?_, ⟨hpm, by simp; omega, ?_⟩, by simp; omega⟩
   ·simp only [j9, List.map_append, List.map_cons, List.map_nil, a0i]
   ·rw [List.append_assoc, List.singleton_append]; exact h3
  ·rw [show l.length + 1 - out.length = 0 by omega, G9, List.append_nil] at h3
   rw [<- h3]
   exact qts
def c8v (l : List Alm) (i : Int) : AS := ⟨m7 [(0, r6 false l), (13, r6 false l), (14, iv l.length), (15, iv i)], f7 [], f7 []⟩
def c9S (l : List Alm) (i : Int) : AS := ⟨m7 [(0, r6 false l), (39, r6 false l), (40, iv l.length), (41, iv i)], f7 [], f7 []⟩
def c9A (l : List Alm) (i : Int) : AS := ⟨m7 [(0, r6 false l), (56, r6 false l), (57, iv l.length), (58, iv i)], f7 [], f7 []⟩
def b5H (l : List Ser) (i : Nat) : Option ByteArray := if i = 0 then none else some (l.getD (i - 1) default).t
theorem a5H (l : List Ser) (i : Nat) : b5H l (i + 1) = some (l.getD i default).t := rfl
def a8q (l : List Ser) (i : Int) : AS := ⟨m7 [(0, B1 false l), (9, B1 false l), (10, iv l.length), (11, iv i)], f7 [], f7 []⟩
theorem a7j (l : List Ser) (hl : l.length <= 1000000) (hsm : ∀ x ∈ l, x.t.size <= 1000 ∧ x.l.length <= 1000000) : FC Tryz.prog 12 none [B1 false l] (fun _ r => r = iv (asF l)) := by
 refine fcE Tryz.func12 (aL [[0],[0,8],[2],[0,9,10,11],[0,9,10,11,12]] ++ aM [4] [] [[0,3,4,9,10,11],[0,3,4,9,10,11,16]] ++ aL [[2]] ++ aM [4] [] [[0,4,9,10,11,21]] ++ aL [[2],[0,5,9,10,11],[0,5,9,10,11,39],[2],[0,9,10,11],[2]]) ?_
 unfold asF
 by_cases c0 : l.length > 200
 ·rw [if_pos c0]
  exact qt
 rw [if_neg c0]
 refine qv ?_
 refine l0 (a8q l) (fun i => 0 <= i ∧ i <= l.length ∧ b0Y (b5H l i.toNat) (l.drop i.toNat) = b0Y none l) (fun i => (l.length - i).toNat) 0 ⟨by omega, by omega, rfl⟩ rfl ?_
 rintro i ⟨g1, g2, g3⟩
 unfold a8q
 by_cases hi : i < l.length
 ·have e2 : (i + 1).toNat = i.toNat + 1 := by omega
  have hm := hsm _ (f8 l i.toNat (by omega))
  rw [m5 l i.toNat (by omega), b0Y, <- e2] at g3
  have hk := a1t (l.getD i.toNat default).t (by omega)
  have hs := a2g (l.getD i.toNat default).l (by omega)
  cases c1 : l8 (l.getD i.toNat default).t with
  | false =>
   rw [c1] at hk
   rw [if_pos c1] at g3
   rw [<- g3]
   refine qcs hk ?_
   exact qts
  | true =>
   rw [c1] at hk
   rw [if_neg (by rw [c1]; simp)] at g3
   have step : ∀ (S : Int), n6 (l.getD i.toNat default).l = S -> True := fun _ _ => trivial
   by_cases hi0 : 0 < i
   ·have ep := e8 (b5u true) l (i - 1) [] (by omega) (by omega)
    have e4 : b5H l i.toNat = some (l.getD (i - 1).toNat default).t := by
     unfold b5H; rw [if_neg (by omega)]
     rw [show i.toNat - 1 = (i - 1).toNat by omega]
    rw [e4] at g3
    have ho := a8u (a := (l.getD i.toNat default).t) (b := (l.getD (i - 1).toNat default).t)
    by_cases c2 : ltS (l.getD (i - 1).toNat default).t (l.getD i.toNat default).t
    ·rw [if_neg (show ¬(D7 (some (l.getD (i - 1).toNat default).t) (l.getD i.toNat default).t = true) from fun h => (of_decide_eq_true h) c2)] at g3
     have h5 : ¬(ltS (l.getD i.toNat default).t (l.getD (i - 1).toNat default).t ∨ (l.getD i.toNat default).t = (l.getD (i - 1).toNat default).t) := fun h => (ho.1 h) c2
     by_cases c3 : n6 (l.getD i.toNat default).l ≠ 0
     ·rw [if_pos c3] at g3
      rw [<- g3]
      refine qcs hk ?_
      refine qcs hs ?_
      exact qts
     ·rw [if_neg c3] at g3
      refine qcs hk ?_
      refine qcs hs ?_
      refine qvs ?_
      exact ⟨i + 1, rfl, ⟨by omega, by omega, by rw [e2, a5H, <- e2]; exact g3⟩, by omega⟩
    ·rw [if_pos (show D7 (some (l.getD (i - 1).toNat default).t) (l.getD i.toNat default).t = true from decide_eq_true c2)] at g3
     have h5 := ho.2 c2
     rw [<- g3]
     refine qcs hk ?_
     exact qts
   ·have e0 : i = 0 := by omega
    subst e0
    rw [show b5H l (Int.toNat 0) = none from rfl, if_neg (by simp [D7])] at g3
    by_cases c3 : n6 (l.getD (Int.toNat 0) default).l ≠ 0
    ·rw [if_pos c3] at g3
     rw [<- g3]
     refine qcs hk ?_
     refine qcs hs ?_
     exact qts
    ·rw [if_neg c3] at g3
     refine qcs hk ?_
     refine qcs hs ?_
     refine qvs ?_
     exact ⟨1, rfl, ⟨by omega, by omega, g3⟩, by omega⟩
 ·rw [List.drop_eq_nil_of_le (by omega), b0Y] at g3
  rw [<- g3]
  exact qt
end Go.Proofs.YtnlafmigfjlnnaaGreatDoor

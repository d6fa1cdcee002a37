/- The reference's log of alarms. -/
import Derived.Test.YtnlafmigfjlnnaaGreatDoorEvs
import Derived.Test.YtnlafmigfjlnnaaGreatDoorAft
set_option linter.all false
set_option maxHeartbeats 0
namespace Go.Proofs.YtnlafmigfjlnnaaGreatDoor
open Go Go.Ai
inductive Rdo where
 | on (i : Nat)
 | off (i : Nat)
 | act (k : Nat)
 | nop
structure Rev where
 a : Int
 o : Int
 b : ByteArray
 no : Int
 d : Rdo
instance : Inhabited Rev := ⟨⟨0, 0, emp, 0, .nop⟩⟩
def a5Y (x y : Rev) : Int := C3 [sd y.a x.a, sd y.o x.o, a0u x.b y.b, sd y.no x.no]
def ltR (x y : Rev) : Prop := x.a < y.a ∨ (x.a = y.a ∧ (x.o < y.o ∨ (x.o = y.o ∧ (ltS x.b y.b ∨ (x.b = y.b ∧ x.no < y.no)))))
theorem d0i (x y z w : Int) : C3 [x, y, z, w] = if x ≠ 0 then x else if y ≠ 0 then y else if z ≠ 0 then z else w := by
 unfold C3 C3 C3 C3 C3
 (repeat' split) <;> omega
theorem c3E (a b : Int) : (sd b a < 0 ↔ a < b) ∧ (sd b a = 0 ↔ a = b) := by
 rcases X9 b a with ⟨h1, h2⟩ | ⟨h1, h2⟩ | ⟨h1, h2⟩ <;> rw [h2] <;> constructor <;> constructor <;> intro h <;> omega
theorem c5l (a b : ByteArray) : (a0u a b < 0 ↔ ltS a b) ∧ (a0u a b = 0 ↔ a = b) := by
 rcases L5 a b with ⟨h1, h2⟩ | ⟨h1, h2⟩ | ⟨h1, h2⟩ <;> rw [h1]
 ·subst h2; exact ⟨⟨fun h => by omega, fun h => absurd h (r8 _)⟩, ⟨fun _ => rfl, fun _ => rfl⟩⟩
 ·exact ⟨⟨fun _ => h2, fun _ => by omega⟩, ⟨fun h => by omega, fun h => by subst h; exact absurd h2 (r8 _)⟩⟩
 ·exact ⟨⟨fun h => by omega, fun h => absurd h2 (M6 h)⟩, ⟨fun h => by omega, fun h => by subst h; exact absurd h2 (r8 _)⟩⟩
theorem O2 (x y : Rev) : a5Y x y < 0 ↔ ltR x y := by
 unfold a5Y ltR
 rw [d0i]
 obtain ⟨a1, a2⟩ := c3E x.a y.a
 obtain ⟨b1, b2⟩ := c3E x.o y.o
 obtain ⟨c1, c2⟩ := c5l x.b y.b
 obtain ⟨d1, d2⟩ := c3E x.no y.no
 all_goals grind
theorem c3Y (x : Rev) : ¬ltR x x := by
 rintro (h | ⟨_, h | ⟨_, h | h⟩⟩)
 ·omega
 ·omega
 ·exact r8 _ h
 ·omega
theorem c9h {x z : Rev} (y : Rev) (h : ltR x z) : ltR x y ∨ ltR y z := by
 unfold ltR at *
 rcases (show x.a < y.a ∨ y.a < x.a ∨ x.a = y.a by omega) with h1 | h1 | h1
 ·exact .inl (.inl h1)
 ·grind
 ·rcases h with h | ⟨h, h'⟩
  ·exact .inr (.inl (by omega))
  ·rcases (show x.o < y.o ∨ y.o < x.o ∨ x.o = y.o by omega) with h2 | h2 | h2
   ·grind
   ·grind
   ·rcases h' with h' | ⟨h3, h'⟩
    ·grind
    ·have := c1B (x := ⟨x.b, x.no, 0, 0, emp, 0⟩) (z := ⟨z.b, z.no, 0, 0, emp, 0⟩) ⟨y.b, y.no, 0, 0, emp, 0⟩ h'
     rcases this with h4 | h4
     ·exact .inl (.inr ⟨h1, .inr ⟨h2, h4⟩⟩)
     ·exact .inr (.inr ⟨by omega, .inr ⟨by omega, h4⟩⟩)
theorem d1L {x y z : Rev} (h1 : ltR x y) (h2 : ltR y z) : ltR x z := by
 unfold ltR at *
 rcases h1 with h1 | ⟨h1, h3⟩ <;> rcases h2 with h2 | ⟨h2, h4⟩
 ·exact .inl (by omega)
 ·exact .inl (by omega)
 ·exact .inl (by omega)
 ·refine .inr ⟨by omega, ?_⟩
  rcases h3 with h3 | ⟨h3, h5⟩ <;> rcases h4 with h4 | ⟨h4, h6⟩
  ·exact .inl (by omega)
  ·exact .inl (by omega)
  ·exact .inl (by omega)
  ·exact .inr ⟨by omega, c1A (x := ⟨x.b, x.no, 0, 0, emp, 0⟩) (y := ⟨y.b, y.no, 0, 0, emp, 0⟩) (z := ⟨z.b, z.no, 0, 0, emp, 0⟩) h5 h6⟩
theorem revSwo : Swo (fun _ => True) a5Y where
 irr x _ h := c3Y x ((O2 x x).1 h)
 tr x y z _ _ _ h1 h2 := (O2 x z).2 (d1L ((O2 x y).1 h1) ((O2 y z).1 h2))
 ntr x y z _ _ _ h1 h2 h3 := by
  rcases c9h y ((O2 x z).1 h3) with h | h
  ·exact h1 ((O2 x y).2 h)
  ·exact h2 ((O2 y z).2 h)
/-! ### all events -/
def rvW (i : Nat) (v : Int × Int) : List Rev := ⟨v.1, 0, emp, 0, .on i⟩ :: if v.2 < 345686400000 then [⟨v.2, 0, emp, 0, .off i⟩] else []
def rvA (s : List Ser) (i : Nat) (x : Alm) : List Rev := (m8 s x).flatMap (rvW i)
def rvB (k : Nat) (x : Opr) : List Rev := ⟨x.at_, 2, x.b, x.no, .act k⟩ :: if x.kd = 2 ∧ x.un < 345686400000 then [⟨x.un, 1, emp, 0, .nop⟩] else []
def Z6 (s : List Ser) : Nat -> List Alm -> List Rev
 | _, [] => []
 | i, x :: r => rvA s i x ++ Z6 s (i + 1) r
def a0L : Nat -> List Opr -> List Rev
 | _, [] => []
 | k, x :: r => rvB k x ++ a0L (k + 1) r
def H7 (l : List Alm) (s : List Ser) (a : List Opr) : List Rev := Z6 s 0 l ++ a0L 0 a
def Y6 (l : List Alm) (s : List Ser) (a : List Opr) : List Rev := n5 a5Y (H7 l s a)
def phE (a : List Opr) (e : Ev) : Rev := if e.k = 2 then ⟨e.a, 2, (a.getD e.ac.toNat default).b, (a.getD e.ac.toNat default).no, .act e.ac.toNat⟩ else ⟨e.a, 0, emp, 0, if e.on = true then .on e.al.toNat else .off e.al.toNat⟩
def qE (e : Ev) : Bool := decide (e.k ≠ 1 ∧ e.a < 345686400000)
def qR (e : Rev) : Bool := decide (e.o ≠ 1)
def a1E (s : List Ser) (l : List Alm) : Prop := ∀ x ∈ l, Fcs 0 (m8 s x)
theorem Fcs.lt : ∀ {W : List (Int × Int)} {lo : Int}, Fcs lo W -> ∀ w ∈ W, lo <= w.1 ∧ w.1 < w.2 ∧ w.2 <= 345686400000
 | [], _, _, w, hw => by cases hw
 | v :: W, lo, h, w, hw => by
  obtain ⟨h1, h2, h3, h4⟩ := h
  rcases List.mem_cons.1 hw with rfl | hw
  ·exact ⟨h1, h2, h3⟩
  ·have := h4.lt w hw; omega
theorem c1h (a : List Opr) (i : Nat) : ∀ (W : List (Int × Int)), (∀ w ∈ W, w.1 < 345686400000) -> (W.flatMap (rvW i)).filter qR = ((W.flatMap fun v => [⟨v.1, 0, (i : Int), true, 0⟩, ⟨v.2, 0, (i : Int), false, 0⟩]).filter qE).map (phE a)
 | [], _ => rfl
 | v :: W, h => by
  have h0 := h v (by simp)
  rw [List.flatMap_cons, List.flatMap_cons, List.filter_append, List.filter_append, List.map_append, c1h a i W fun w hw => h w (by simp [hw])]
  congr 1
  by_cases h2 : v.2 < 345686400000
  ·simp [rvW, qR, qE, phE, h0, h2]
  ·simp [rvW, qR, qE, phE, h0, h2]
theorem b5o (a : List Opr) (s : List Ser) : ∀ (l : List Alm) (i : Nat), a1E s l -> (Z6 s i l).filter qR = ((O8 s (i : Int) l).filter qE).map (phE a)
 | [], _, _ => rfl
 | x :: l, i, h => by
  have ih := b5o a s l (i + 1) fun y hy => h y (by simp [hy])
  rw [Z6, O8, List.filter_append, List.filter_append, List.map_append, ih, show ((i + 1 : Nat) : Int) = (i : Int) + 1 by omega]
  congr 1
  exact c1h a i _ fun w hw => by have := (h x (by simp)).lt w hw; omega
theorem b3a (a : List Opr) (l : List Alm) : ∀ (r : List Opr) (k : Nat), (∀ j, j < r.length -> a.getD (k + j) default = r.getD j default) -> (∀ x ∈ r, x.at_ < 345686400000) -> (a0L k r).filter qR = ((V4 l (k : Int) r).filter qE).map (phE a)
 | [], _, _, _ => rfl
 | x :: r, k, h, ht => by
  have ih := b3a a l r (k + 1) (fun j hj => by have := h (j + 1) (by simp; omega); rw [show k + 1 + j = k + (j + 1) by omega, this]; rfl) fun y hy => ht y (by simp [hy])
  have h0 : a.getD k default = x := by have := h 0 (by simp); simpa using this
  have t0 := ht x (by simp)
  rw [a0L, V4, List.filter_append, List.filter_append, List.map_append, ih, show ((k + 1 : Nat) : Int) = (k : Int) + 1 by omega]
  congr 1
  have e1 : phE a ⟨x.at_, 2, v7 l x.al, false, (k : Int)⟩ = ⟨x.at_, 2, x.b, x.no, .act k⟩ := by
   unfold phE; rw [if_pos rfl]; simp only [Int.toNat_natCast]; rw [h0]
  have e2 : ∀ y, qE ⟨y, 1, v7 l x.al, false, 0⟩ = false := fun y => by simp [qE]
  unfold rvB evB
  have f1 : (if x.kd = 2 ∧ x.un < 345686400000 then [(⟨x.un, 1, emp, 0, .nop⟩ : Rev)] else []).filter qR = [] := by split <;> simp [qR]
  have f2 : (if x.kd = 2 ∧ 0 <= v7 l x.al then [(⟨x.un, 1, v7 l x.al, false, 0⟩ : Ev)] else []).filter qE = [] := by split <;> simp [qE]
  have q1 : qR ⟨x.at_, 2, x.b, x.no, .act k⟩ = true := by simp [qR]
  have q2 : qE ⟨x.at_, 2, v7 l x.al, false, (k : Int)⟩ = true := by simp [qE, t0]
  grind
theorem c7E {l : List Alm} {s : List Ser} {a : List Opr} (hw : a1E s l) (ha : ∀ x ∈ a, x.at_ < 345686400000) : (H7 l s a).filter qR = ((Z5 l s a).filter qE).map (phE a) := by
 unfold H7 Z5
 rw [List.filter_append, List.filter_append, List.map_append, b5o a s l 0 hw, b3a a l a 0 (fun j _ => by rw [Nat.zero_add]) ha]
 rfl
theorem a0W {s : List Ser} {e : Ev} : ∀ {l : List Alm} {j : Int}, e ∈ O8 s j l -> ∃ i : Nat, i < l.length ∧ e ∈ evA s (j + i) (l.getD i default)
 | [], j, h => by simp [O8] at h
 | x :: l, j, h => by
  rw [O8, List.mem_append] at h
  rcases h with h | h
  ·grind
  ·obtain ⟨i, h1, h2⟩ := a0W h
   refine ⟨i + 1, by simpa using h1, ?_⟩
   grind
theorem N7 {q : List Alm} {e : Ev} : ∀ {l : List Opr} {j : Int}, e ∈ V4 q j l -> ∃ i : Nat, i < l.length ∧ e ∈ evB q (j + i) (l.getD i default)
 | [], j, h => by simp [V4] at h
 | x :: l, j, h => by
  rw [V4, List.mem_append] at h
  rcases h with h | h
  ·grind
  ·obtain ⟨i, h1, h2⟩ := N7 h
   refine ⟨i + 1, by simpa using h1, ?_⟩
   grind
theorem a5E {l : List Alm} {s : List Ser} {a : List Opr} {e : Ev} (h : e ∈ Z5 l s a) :
  (∃ i : Nat, i < l.length ∧ e.k = 0 ∧ e.al = i ∧ ∃ w ∈ m8 s (l.getD i default), e = ⟨w.1, 0, i, true, 0⟩ ∨ e = ⟨w.2, 0, i, false, 0⟩) ∨
  (∃ k : Nat, k < a.length ∧ e = ⟨(a.getD k default).at_, 2, v7 l (a.getD k default).al, false, k⟩) ∨
  (∃ k : Nat, k < a.length ∧ (a.getD k default).kd = 2 ∧ 0 <= v7 l (a.getD k default).al ∧ e = ⟨(a.getD k default).un, 1, v7 l (a.getD k default).al, false, 0⟩) := by
 unfold Z5 at h
 rcases List.mem_append.1 h with h | h
 ·obtain ⟨i, hi, hm⟩ := a0W h
  unfold evA at hm
  grind
 ·obtain ⟨k, hk, hm⟩ := N7 h
  rw [Int.zero_add] at hm
  unfold evB at hm
  all_goals grind
theorem a2T (s : List Ser) : ∀ (l : List Alm) (j : Int), (O8 s j l).Pairwise (fun x y => x.al <= y.al) ∧ ∀ e ∈ O8 s j l, j <= e.al ∧ e.k = 0
 | [], j => ⟨List.Pairwise.nil, fun e h => by simp [O8] at h⟩
 | x :: l, j => by
  obtain ⟨h1, h2⟩ := a2T s l (j + 1)
  have h3 : ∀ e ∈ evA s j x, e.al = j ∧ e.k = 0 := fun e he => by
   unfold evA at he
   grind
  rw [O8]
  refine ⟨List.pairwise_append.2 ⟨?_, h1, fun e he f hf => by have := (h3 e he).1; have := (h2 f hf).1; omega⟩, fun e he => ?_⟩
  ·exact List.pairwise_of_forall_mem_list fun e he f hf => by have := (h3 e he).1; have := (h3 f hf).1; omega
  ·all_goals grind
theorem c5h (l : List Alm) (s : List Ser) (a : List Opr) : (Z5 l s a).Pairwise (fun x y => x.k = 0 -> y.k = 0 -> x.al <= y.al) := by
 unfold Z5
 refine List.pairwise_append.2 ⟨(a2T s l 0).1.imp fun h _ _ => h, ?_, fun e _ f hf _ h => ?_⟩
 ·refine List.pairwise_of_forall_mem_list fun e he f _ h _ => ?_
  obtain ⟨i, _, hm⟩ := N7 he
  unfold evB at hm
  all_goals grind
 ·obtain ⟨i, _, hm⟩ := N7 hf
  unfold evB at hm
  all_goals grind
theorem b1G {a : List Opr} {e : Ev} (h : e.k = 0) : phE a e = ⟨e.a, 0, emp, 0, if e.on = true then .on e.al.toNat else .off e.al.toNat⟩ := if_neg (by omega)
theorem b2G {a : List Opr} {e : Ev} (h : e.k = 2) : phE a e = ⟨e.a, 2, (a.getD e.ac.toNat default).b, (a.getD e.ac.toNat default).no, .act e.ac.toNat⟩ := if_pos h
theorem c4I {a : List Opr} {x y : Ev} (hx : x.k = 0 ∨ x.k = 2) (hy : y.k = 0 ∨ y.k = 2) (h : x.k = 0 -> y.k = 0 -> x.al <= y.al) : b5w a y x < 0 ↔ a5Y (phE a y) (phE a x) < 0 := by
 rw [N9, O2]
 unfold ltE ltR
 rcases hx with hx | hx <;> rcases hy with hy | hy
 ·have := h hx hy
  rw [b1G hx, b1G hy]
  simp only
  constructor
  ·grind
  ·rintro (h1 | ⟨h1, h2 | ⟨_, h2 | ⟨_, h2⟩⟩⟩)
   ·exact .inl h1
   ·exfalso; omega
   ·exact absurd h2 (r8 _)
   ·exfalso; omega
 ·rw [b2G hy, b1G hx]
  all_goals grind
 ·rw [b1G hy, b2G hx]
  all_goals grind
 ·rw [b2G hy, b2G hx]
  simp only
  constructor
  ·rintro (h1 | ⟨h1, h2 | ⟨_, ⟨h2, _⟩ | ⟨_, h2⟩⟩⟩)
   ·exact .inl h1
   ·exfalso; omega
   ·exact absurd hy h2
   ·exact .inr ⟨h1, .inr ⟨by trivial, h2⟩⟩
  ·rintro (h1 | ⟨h1, h2 | ⟨_, h2⟩⟩)
   ·exact .inl h1
   ·exfalso; omega
   ·exact .inr ⟨h1, .inr ⟨by omega, .inr ⟨hy, h2⟩⟩⟩
theorem a6l {l : List Alm} {s : List Ser} {a : List Opr} (hw : a1E s l) (ha : ∀ x ∈ a, x.at_ < 345686400000) : (Y6 l s a).filter qR = ((evs l s a).filter qE).map (phE a) := by
 unfold Y6 evs
 rw [P9 revSwo, P9 (evSwo a), c7E hw ha, <- a5i (c := fun x y => a5Y (phE a x) (phE a y)) (fun _ _ => rfl)]
 congr 1
 refine (a6P ?_).symm
 have hk : ∀ e ∈ (Z5 l s a).filter qE, e.k = 0 ∨ e.k = 2 := fun e he => by
  obtain ⟨h1, h2⟩ := List.mem_filter.1 he
  rcases a5E h1 with ⟨_, _, h3, _⟩ | ⟨_, _, he⟩ | ⟨_, _, _, _, he⟩
  ·exact .inl h3
  ·exact .inr (by rw [he])
  ·rw [he] at h2; simp [qE] at h2
 refine List.Pairwise.imp_of_mem (R := fun x y => x.k = 0 -> y.k = 0 -> x.al <= y.al) (fun {x y} hx hy h => c4I (hk x hx) (hk y hy) h) ((c5h l s a).filter _)
/-! ### maps from strings to numbers -/
def mgt (k : ByteArray) : List (ByteArray × Int) -> Int
 | [] => 0
 | p :: l => if p.1 = k then p.2 else mgt k l
def mpt (k : ByteArray) (v : Int) : List (ByteArray × Int) -> List (ByteArray × Int)
 | [] => [(k, v)]
 | p :: l => if p.1 = k then (k, v) :: l else p :: mpt k v l
theorem G3 (k j : ByteArray) (v : Int) : ∀ l, mgt j (mpt k v l) = if k = j then v else mgt j l
 | [] => by simp [mpt, mgt]
 | p :: l => by
  have ih := G3 k j v l
  by_cases h : p.1 = k
  ·rw [mpt, if_pos h, mgt, mgt]
   all_goals grind
  ·rw [mpt, if_neg h, mgt, mgt, ih]
   all_goals grind
/-! ### what the reference does -/
structure Rst where
 st : List (ByteArray × Int)
 sh : List (ByteArray × Int)
 ig : List Int
def actR (l : List Alm) (x : Opr) (r : Rst) : Rst × Bool :=
 if v7 l x.al < 0 then (r, false) else if x.kd = 2 then ({ r with sh := mpt x.al x.un r.sh }, true) else
 if x.kd = 3 then ({ r with sh := mpt x.al 0 r.sh }, decide (mgt x.al r.sh > x.at_)) else
 if mgt x.al r.st = 2 then ({ r with st := mpt x.al 3 r.st }, true) else if mgt x.al r.st = 4 then ({ r with st := mpt x.al 1 r.st }, true) else (r, false)
def doR (l : List Alm) (a : List Opr) (d : Rdo) (r : Rst) : Rst :=
 match d with
 | .on i => { r with st := mpt (l.getD i default).k 2 r.st }
 | .off i => { r with st := mpt (l.getD i default).k (if (l.getD i default).lt = true ∧ mgt (l.getD i default).k r.st = 2 then 4 else 1) r.st }
 | .act k => if (actR l (a.getD k default) r).2 = true then (actR l (a.getD k default) r).1 else { (actR l (a.getD k default) r).1 with ig := (actR l (a.getD k default) r).1.ig ++ [(k : Int)] }
 | .nop => r
def a0y (s : List Ser) (x : Alm) (t : Int) : Bool := (m8 s x).any fun w => decide (w.1 <= t ∧ t < w.2)
def c0J (l : List Alm) (s : List Ser) (r : Rst) (x : Alm) (t : Int) : Int :=
 if (G9 l (l.length + 1) x).any (fun j => a0y s (l.getD j.toNat default) t) = true then 6 else if mgt x.k r.sh > t then 5 else mgt x.k r.st
structure Rlg where
 r : Rst
 la : List (ByteArray × Int)
 out : List Std
def rpX (l : List Alm) (s : List Ser) (t : Int) (x : Alm) (g : Rlg) : Rlg :=
 if c0J l s g.r x t ≠ mgt x.k g.la then { g with la := mpt x.k (c0J l s g.r x t) g.la, out := g.out ++ [⟨x.k, c0J l s g.r x t, t⟩] } else g
def rpR (l : List Alm) (s : List Ser) (t : Int) (g : Rlg) : Rlg := l.foldl (fun g x => rpX l s t x g) g
def apR (l : List Alm) (a : List Opr) (e : Rev) (g : Rlg) : Rlg := { g with r := doR l a e.d g.r }
def inM (l : List Alm) : List (ByteArray × Int) := l.foldl (fun m x => mpt x.k 1 m) []
def rl0 (l : List Alm) : Rlg := ⟨⟨inM l, [], []⟩, inM l, []⟩
def rnR (l : List Alm) (s : List Ser) (a : List Opr) (to : Int) : List Rev -> Rlg -> Rlg := a4t Rev.a (apR l a) (rpR l s) to
def rlA (l : List Alm) (s : List Ser) (a : List Opr) (to : Int) : Rlg := rnR l s a to (Y6 l s a) (rl0 l)
/-! ### the program, moment by moment -/
theorem c7U : ∀ (E : List Ev) (t : Int), c3s E t = hdT Ev.a E t
 | [], _ => rfl
 | _ :: _, _ => rfl
theorem c1p (l : List Alm) (a : List Opr) (to : Int) : ∀ (E : List Ev) (s : Sit), a4s l a to E s = a4t Ev.a (C6 l a) (fun t s => a0D (upA l) t l.length 0 s) to E s
 | [], s => rfl
 | e :: E, s => by
  rw [a4s, a4t, c1p l a to E, c7U]
theorem N8 {l : List Alm} (h : a0w Alm.k l) {i j : Nat} (hi : i < l.length) (hj : j < l.length) (he : (l.getD i default).k = (l.getD j default).k) : i = j := by
 rcases Nat.lt_trichotomy i j with h1 | h1 | h1
 ·have := h i j h1 hj; rw [he] at this; exact absurd this (r8 _)
 ·exact h1
 ·have := h j i h1 hi; rw [he] at this; exact absurd this (r8 _)
theorem a4Q {l : List Alm} (h : a0w Alm.k l) {i : Nat} (hi : i < l.length) : v7 l (l.getD i default).k = i := by
 unfold v7
 have := a7t (fun x : Alm => decide (x.k = (l.getD i default).k)) l 0 i hi (fun j hj => decide_eq_false fun he => by have := N8 h (by omega) hi he; omega) (decide_eq_true rfl)
 omega
theorem b6e {l : List Alm} {k : ByteArray} (h : 0 <= v7 l k) : (v7 l k).toNat < l.length ∧ (l.getD (v7 l k).toNat default).k = k := by
 have h1 := X8 (fun x : Alm => decide (x.k = k)) l 0 (by omega)
 unfold v7 at h ⊢
 all_goals grind
theorem a8W {l : List Alm} (h : J4 l) : ∀ (n : Nat) (x : Alm), x ∈ l -> ∀ k ∈ G9 l n x, 0 <= k ∧ k < l.length
 | 0, x, _, k, hk => by simp [G9] at hk
 | n + 1, x, hx, k, hk => by
  rw [G9] at hk
  by_cases c : x.p = emp
  ·grind
  ·rw [if_neg c] at hk
   have hp := h.par x hx c
   rcases List.mem_cons.1 hk with rfl | hk
   ·exact hp
   ·exact a8W h n _ (f8 l _ (by omega)) k hk
theorem J8 {α : Type} [Inhabited α] (l : List α) (i j : Nat) (x : α) : (l.set i x).getD j default = if i = j ∧ j < l.length then x else l.getD j default := by
 all_goals grind
structure SimP (l : List Alm) (s : List Ser) (a : List Opr) (t : Int) (st : List Sta) (r : Rst) : Prop where
 n : st.length = l.length
 s1 : ∀ i, i < l.length -> mgt (l.getD i default).k r.st = (st.getD i default).bl
 s2 : ∀ i, i < l.length -> (st.getD i default).ac = a0y s (l.getD i default) t
 s3 : ∀ i, i < l.length -> (st.getD i default).un = if mgt (l.getD i default).k r.sh > t then mgt (l.getD i default).k r.sh else 0
 s4 : ∀ i, i < l.length -> mgt (l.getD i default).k r.sh > t -> 0 < mgt (l.getD i default).k r.sh -> ∃ k, k < a.length ∧ (a.getD k default).kd = 2 ∧ v7 l (a.getD k default).al = i ∧ (a.getD k default).un = mgt (l.getD i default).k r.sh
 s5 : ∀ i, i < l.length -> (st.getD i default).ac = true -> ((st.getD i default).bl = 2 ∧ (st.getD i default).ak = false) ∨ ((st.getD i default).bl = 3 ∧ (st.getD i default).ak = true)
/-! ### alarms change -/
structure d7n (l : List Alm) (st0 : List Sta) (st : List Sta) (r0 r : Rst) (A : List Ev) : Prop where
 n : st.length = l.length
 s1 : ∀ i, i < l.length -> mgt (l.getD i default).k r.st = (st.getD i default).bl
 un : ∀ i, i < l.length -> (st.getD i default).un = (st0.getD i default).un
 s5 : ∀ i, i < l.length -> (st.getD i default).ac = true -> ((st.getD i default).bl = 2 ∧ (st.getD i default).ak = false) ∨ ((st.getD i default).bl = 3 ∧ (st.getD i default).ak = true)
 sh : r.sh = r0.sh
 ig : r.ig = r0.ig
 hit : ∀ e ∈ A, (st.getD e.al.toNat default).ac = e.on
 els : ∀ i : Nat, i < l.length -> (∀ e ∈ A, e.al ≠ i) -> (st.getD i default).ac = (st0.getD i default).ac
theorem d1l {l : List Alm} {a : List Opr} {e : Ev} {σ : Sit} (hk : e.k ≠ 2) : (C6 l a e σ).st = σ.st.set e.al.toNat (a3q (l.getD e.al.toNat default).lt (σ.st.getD e.al.toNat default) e) ∧ (C6 l a e σ).td = σ.td ∧ (C6 l a e σ).ig = σ.ig ∧ (C6 l a e σ).out = σ.out := by
 unfold C6; rw [if_neg hk]; exact ⟨rfl, rfl, rfl, rfl⟩
theorem b2y {l : List Alm} {a : List Opr} (hup : a0w Alm.k l) : ∀ (A : List Ev) (σ : Sit) (r : Rst), σ.st.length = l.length ->
  (∀ i, i < l.length -> mgt (l.getD i default).k r.st = (σ.st.getD i default).bl) ->
  (∀ i, i < l.length -> (σ.st.getD i default).ac = true -> ((σ.st.getD i default).bl = 2 ∧ (σ.st.getD i default).ak = false) ∨ ((σ.st.getD i default).bl = 3 ∧ (σ.st.getD i default).ak = true)) ->
  (∀ e ∈ A, e.k = 0 ∧ 0 <= e.al ∧ e.al < l.length) -> (∀ e ∈ A, e.on = false -> (σ.st.getD e.al.toNat default).ac = true) -> A.Pairwise (fun x y => x.al ≠ y.al) ->
  d7n l σ.st (A.foldl (fun s e => C6 l a e s) σ).st r ((A.map (phE a)).foldl (fun r e => doR l a e.d r) r) A ∧ (A.foldl (fun s e => C6 l a e s) σ).td = σ.td ∧ (A.foldl (fun s e => C6 l a e s) σ).ig = σ.ig ∧ (A.foldl (fun s e => C6 l a e s) σ).out = σ.out
 | [], σ, r, h1, h2, h3, _, _, _ => ⟨⟨h1, h2, fun _ _ => rfl, h3, rfl, rfl, fun e he => by simp at he, fun _ _ _ => rfl⟩, rfl, rfl, rfl⟩
 | e :: A, σ, r, h1, h2, h3, h4, h5, h6 => by
  obtain ⟨k0, a0, a1⟩ := h4 e (by simp)
  rw [List.pairwise_cons] at h6
  obtain ⟨e1, e2, e3, e4⟩ := d1l (l := l) (a := a) (e := e) (σ := σ) (by omega)
  have hi : e.al.toNat < l.length := by omega
  have hgs : (C6 l a e σ).st.getD e.al.toNat default = a3q (l.getD e.al.toNat default).lt (σ.st.getD e.al.toNat default) e := by rw [e1, J8, if_pos ⟨rfl, by omega⟩]
  have hgo : ∀ j, e.al.toNat ≠ j -> (C6 l a e σ).st.getD j default = σ.st.getD j default := fun j hj => by rw [e1, J8, if_neg (fun h => hj h.1)]
  have hd : phE a e = ⟨e.a, 0, emp, 0, if e.on = true then .on e.al.toNat else .off e.al.toNat⟩ := b1G k0
  have ht : a3q (l.getD e.al.toNat default).lt (σ.st.getD e.al.toNat default) e = if e.on = true then { (σ.st.getD e.al.toNat default) with ac := true, ak := false, bl := 2 } else { (σ.st.getD e.al.toNat default) with ac := false, bl := if (l.getD e.al.toNat default).lt = true ∧ (σ.st.getD e.al.toNat default).ak = false then 4 else 1 } := by
   unfold a3q; rw [if_neg (by omega)]
  have hdr : (doR l a (phE a e).d r).st = mpt (l.getD e.al.toNat default).k (if e.on = true then 2 else if (l.getD e.al.toNat default).lt = true ∧ mgt (l.getD e.al.toNat default).k r.st = 2 then 4 else 1) r.st ∧ (doR l a (phE a e).d r).sh = r.sh ∧ (doR l a (phE a e).d r).ig = r.ig := by
   rw [hd]
   cases hon : e.on with
   | true => simp [hon, doR]
   | false => simp [hon, doR]
  have hst : ∀ i, i < l.length -> mgt (l.getD i default).k (doR l a (phE a e).d r).st = ((C6 l a e σ).st.getD i default).bl := fun i hil => by
   rw [hdr.1, G3]
   by_cases hei : e.al.toNat = i
   ·grind
   ·rw [if_neg (fun h => hei (N8 hup hi hil h)), hgo i hei]
    exact h2 i hil
  have hs5 : ∀ i, i < l.length -> ((C6 l a e σ).st.getD i default).ac = true -> (((C6 l a e σ).st.getD i default).bl = 2 ∧ ((C6 l a e σ).st.getD i default).ak = false) ∨ (((C6 l a e σ).st.getD i default).bl = 3 ∧ ((C6 l a e σ).st.getD i default).ak = true) := fun i hil => by
   all_goals grind
  obtain ⟨ih, i2, i3, i4⟩ := b2y hup A (C6 l a e σ) (doR l a (phE a e).d r) (by rw [e1, List.length_set]; exact h1) hst hs5 (fun f hf => h4 f (by simp [hf])) (fun f hf hon => by
   have hfa := h4 f (by simp [hf])
   have := h6.1 f hf
   rw [hgo _ (by omega)]
   exact h5 f (by simp [hf]) hon) h6.2
  rw [List.foldl_cons, List.map_cons, List.foldl_cons]
  refine ⟨⟨ih.n, ih.s1, fun i hil => ?_, ih.s5, ?_, ?_, fun f hf => ?_, fun i hil hno => ?_⟩, i2.trans e2, i3.trans e3, i4.trans e4⟩
  ·rw [ih.un i hil]
   all_goals grind
  ·rw [ih.sh, hdr.2.1]
  ·rw [ih.ig, hdr.2.2]
  ·rcases List.mem_cons.1 hf with rfl | hf
   ·rw [ih.els _ hi (fun g hgm => by have := h6.1 g hgm; have := (h4 g (by simp [hgm])).2; omega), hgs, ht]
    cases hon : f.on <;> simp
   ·exact ih.hit f hf
  ·rw [ih.els i hil (fun f hf => hno f (by simp [hf])), hgo i (fun h => hno e (by simp) (by omega))]
/-! ### shelving ends -/
theorem b4q {l : List Alm} {a : List Opr} {t : Int} : ∀ (U : List Ev) (σ : Sit), σ.st.length = l.length -> (∀ e ∈ U, e.k = 1 ∧ e.a = t ∧ 0 <= e.al ∧ e.al < l.length) ->
  (U.foldl (fun s e => C6 l a e s) σ).st.length = l.length ∧ (∀ i, i < l.length -> ((U.foldl (fun s e => C6 l a e s) σ).st.getD i default) = if (σ.st.getD i default).un = t ∧ (∃ e ∈ U, e.al = i) then { (σ.st.getD i default) with un := 0 } else σ.st.getD i default) ∧
  (U.foldl (fun s e => C6 l a e s) σ).td = σ.td ∧ (U.foldl (fun s e => C6 l a e s) σ).ig = σ.ig ∧ (U.foldl (fun s e => C6 l a e s) σ).out = σ.out
 | [], σ, h1, _ => ⟨h1, fun i _ => by rw [if_neg (fun h => by obtain ⟨e, he, _⟩ := h.2; simp at he)]; rfl, rfl, rfl, rfl⟩
 | e :: U, σ, h1, h2 => by
  obtain ⟨k1, ka, a0, a1⟩ := h2 e (by simp)
  obtain ⟨e1, e2, e3, e4⟩ := d1l (l := l) (a := a) (e := e) (σ := σ) (by omega)
  have hi : e.al.toNat < l.length := by omega
  have hgs : (C6 l a e σ).st.getD e.al.toNat default = a3q (l.getD e.al.toNat default).lt (σ.st.getD e.al.toNat default) e := by rw [e1, J8, if_pos ⟨rfl, by omega⟩]
  have hgo : ∀ j, e.al.toNat ≠ j -> (C6 l a e σ).st.getD j default = σ.st.getD j default := fun j hj => by rw [e1, J8, if_neg (fun h => hj h.1)]
  have ht : a3q (l.getD e.al.toNat default).lt (σ.st.getD e.al.toNat default) e = if (σ.st.getD e.al.toNat default).un = t then { (σ.st.getD e.al.toNat default) with un := 0 } else σ.st.getD e.al.toNat default := by
   unfold a3q; rw [if_pos k1, ka]
  obtain ⟨i1, i2, i3, i4, i5⟩ := b4q (t := t) U (C6 l a e σ) (by rw [e1, List.length_set]; exact h1) (fun f hf => h2 f (by simp [hf]))
  rw [List.foldl_cons]
  refine ⟨i1, fun i hil => ?_, i3.trans e2, i4.trans e3, i5.trans e4⟩
  rw [i2 i hil]
  by_cases hei : e.al.toNat = i
  ·subst hei
   have hex : ∃ f ∈ e :: U, f.al = (e.al.toNat : Int) := ⟨e, by simp, by omega⟩
   rw [hgs, ht]
   by_cases hu : (σ.st.getD e.al.toNat default).un = t
   ·rw [if_pos hu, if_pos (⟨hu, hex⟩ : (σ.st.getD e.al.toNat default).un = t ∧ ∃ f ∈ e :: U, f.al = (e.al.toNat : Int))]
    split <;> rfl
   ·grind
  ·rw [hgo i hei]
   have : (∃ f ∈ e :: U, f.al = (i : Int)) ↔ ∃ f ∈ U, f.al = (i : Int) := by
    all_goals grind
   simp only [this]
/-! ### acts -/
structure c1y (l : List Alm) (s : List Ser) (a : List Opr) (t : Int) (σ : Sit) (r : Rst) : Prop where
 p : SimP l s a t σ.st r
 ig : r.ig = σ.ig
theorem SimP.of_set {l : List Alm} {s : List Ser} {a : List Opr} {t : Int} {st : List Sta} {r r' : Rst} (h : SimP l s a t st r) (hup : a0w Alm.k l) {i : Nat} (hi : i < l.length) (x : Sta) (v u : Int)
  (hst : r'.st = r.st ∧ v = (st.getD i default).bl ∨ r'.st = mpt (l.getD i default).k v r.st) (hsh : r'.sh = r.sh ∧ x.un = (st.getD i default).un ∨ r'.sh = mpt (l.getD i default).k u r.sh ∧ x.un = (if u > t then u else 0) ∧ (u > t -> 0 < u -> ∃ k, k < a.length ∧ (a.getD k default).kd = 2 ∧ v7 l (a.getD k default).al = i ∧ (a.getD k default).un = u))
  (hb : x.bl = v) (hac : x.ac = (st.getD i default).ac) (h5 : x.ac = true -> (x.bl = 2 ∧ x.ak = false) ∨ (x.bl = 3 ∧ x.ak = true)) : SimP l s a t (st.set i x) r' := by
 have hg1 : (st.set i x).getD i default = x := by rw [J8, if_pos ⟨rfl, by rw [h.n]; exact hi⟩]
 have hg2 : ∀ j, i ≠ j -> (st.set i x).getD j default = st.getD j default := fun j hj => by rw [J8, if_neg (fun c => hj c.1)]
 have hk : ∀ j, j < l.length -> i ≠ j -> (l.getD i default).k ≠ (l.getD j default).k := fun j hj hij c => hij (N8 hup hi hj c)
 have m1 : ∀ j, j < l.length -> mgt (l.getD j default).k r'.st = if i = j then v else mgt (l.getD j default).k r.st := fun j hj => by
  by_cases hij : i = j
  ·subst hij
   rw [if_pos rfl]
   rcases hst with ⟨e, e2⟩ | e
   ·rw [e, h.s1 i hi, e2]
   ·rw [e, G3, if_pos rfl]
  ·rw [if_neg hij]
   rcases hst with ⟨e, _⟩ | e
   ·rw [e]
   ·rw [e, G3, if_neg (hk j hj hij)]
 have m2 : ∀ j, j < l.length -> i ≠ j -> mgt (l.getD j default).k r'.sh = mgt (l.getD j default).k r.sh := fun j hj hij => by
  rcases hsh with ⟨e, _⟩ | ⟨e, _⟩
  ·rw [e]
  ·rw [e, G3, if_neg (hk j hj hij)]
 refine ⟨by rw [List.length_set]; exact h.n, fun j hj => ?_, fun j hj => ?_, fun j hj => ?_, fun j hj => ?_, fun j hj => ?_⟩ <;> by_cases hij : i = j
 ·grind
 ·rw [m1 j hj, if_neg hij, hg2 j hij]; exact h.s1 j hj
 ·subst hij; rw [hg1, hac]; exact h.s2 i hi
 ·rw [hg2 j hij]; exact h.s2 j hj
 ·subst hij
  rw [hg1]
  rcases hsh with ⟨e, e2⟩ | ⟨e, e2, _⟩
  ·rw [e, e2]; exact h.s3 i hi
  ·rw [e, G3, if_pos rfl, e2]
 ·rw [hg2 j hij, m2 j hj hij]; exact h.s3 j hj
 ·subst hij
  rcases hsh with ⟨e, e2⟩ | ⟨e, e2, e3⟩
  ·rw [e]; exact h.s4 i hi
  ·rw [e, G3, if_pos rfl]; exact e3
 ·rw [m2 j hj hij]; exact h.s4 j hj
 ·grind
 ·rw [hg2 j hij]; exact h.s5 j hj
theorem b6N {l : List Alm} {s : List Ser} {a : List Opr} {t : Int} (ht : 0 <= t) (hup : a0w Alm.k l) (ha : ∀ x ∈ a, x.kd = 2 -> x.at_ < x.un) (hkd : ∀ x ∈ a, 1 <= x.kd ∧ x.kd <= 3) {σ : Sit} {r : Rst} (h : c1y l s a t σ r) {k : Nat} (hk : k < a.length) (hat : (a.getD k default).at_ = t) :
  c1y l s a t (C6 l a ⟨t, 2, v7 l (a.getD k default).al, false, k⟩ σ) (doR l a (.act k) r) ∧ (C6 l a ⟨t, 2, v7 l (a.getD k default).al, false, k⟩ σ).td = σ.td ∧ (C6 l a ⟨t, 2, v7 l (a.getD k default).al, false, k⟩ σ).out = σ.out := by
 have hx := f8 a k hk
 have hku := ha _ hx
 have hkk := hkd _ hx
 have hkn : ((k : Nat) : Int).toNat = k := by omega
 unfold C6 doR
 simp only [hkn, if_true]
 have hX : ∃ x, a.getD k default = x := ⟨_, rfl⟩
 obtain ⟨x, hX⟩ := hX
 have hpk := hk
 have hpX := hX
 rw [hX] at hat hku hkk ⊢
 unfold actR
 by_cases h0 : v7 l x.al < 0
 ·rw [if_pos h0, if_pos h0]
  simp only [Bool.false_eq_true, if_false]
  exact ⟨⟨⟨h.p.n, h.p.s1, h.p.s2, h.p.s3, h.p.s4, h.p.s5⟩, by simp only; rw [h.ig]⟩, by trivial, by trivial⟩
 ·obtain ⟨i1, i2⟩ := b6e (l := l) (k := x.al) (by omega)
  have hp := h.p
  have q1 := hp.s1 _ i1
  have q3 := hp.s3 _ i1
  have q5 := hp.s5 _ i1
  rw [i2] at q1 q3
  rw [if_neg h0, if_neg h0]
  generalize hI : (v7 l x.al).toNat = I at *
  unfold c3O
  by_cases k2 : x.kd = 2
  ·rw [if_pos k2, if_pos k2]
   simp only [if_true]
   refine ⟨⟨hp.of_set hup i1 _ (σ.st.getD I default).bl x.un (.inl ⟨rfl, rfl⟩) (.inr ⟨by rw [i2], by simp only; rw [if_pos (by have := hku k2; omega)], fun _ _ => ⟨k, hpk, by rw [hpX]; exact ⟨k2, by omega, rfl⟩⟩⟩) rfl rfl q5, h.ig⟩, by trivial, by trivial⟩
  rw [if_neg k2, if_neg k2]
  by_cases k3 : x.kd = 3
  ·rw [if_pos k3, if_pos k3]
   have hd : decide (mgt x.al r.sh > x.at_) = decide ((σ.st.getD I default).un > 0) := by
    all_goals grind
   have hn := hp.of_set (r' := { r with sh := mpt x.al 0 r.sh }) hup i1 { (σ.st.getD I default) with un := 0 } (σ.st.getD I default).bl 0 (.inl ⟨rfl, rfl⟩) (.inr ⟨by rw [i2], by simp only; rw [if_neg (by omega)], fun _ c => by omega⟩) rfl rfl q5
   simp only [hd]
   cases hc : decide ((σ.st.getD I default).un > 0) with
   | true => simp only [if_true]; exact ⟨⟨hn, h.ig⟩, by trivial, by trivial⟩
   | false => simp only [Bool.false_eq_true, if_false]; exact ⟨⟨⟨hn.n, hn.s1, hn.s2, hn.s3, hn.s4, hn.s5⟩, by simp only; rw [h.ig]⟩, by trivial, by trivial⟩
  rw [if_neg k3, if_neg k3, q1]
  by_cases b2 : (σ.st.getD I default).bl = 2
  ·rw [if_pos b2, if_pos b2]
   simp only [if_true]
   exact ⟨⟨hp.of_set hup i1 _ 3 0 (.inr (by rw [i2])) (.inl ⟨rfl, rfl⟩) rfl rfl (fun _ => .inr ⟨rfl, rfl⟩), h.ig⟩, by trivial, by trivial⟩
  rw [if_neg b2, if_neg b2]
  by_cases b4 : (σ.st.getD I default).bl = 4
  ·rw [if_pos b4, if_pos b4]
   simp only [if_true]
   exact ⟨⟨hp.of_set hup i1 _ 1 0 (.inr (by rw [i2])) (.inl ⟨rfl, rfl⟩) rfl rfl (fun c => by rcases q5 c with c | c <;> omega), h.ig⟩, by trivial, by trivial⟩
  rw [if_neg b4, if_neg b4]
  simp only [Bool.false_eq_true, if_false]
  have hset : σ.st.set I (σ.st.getD I default) = σ.st := by
   rw [List.getD_eq_getElem?_getD, List.getElem?_eq_getElem (by rw [hp.n]; exact i1)]; exact List.set_getElem_self _
  rw [hset]
  exact ⟨⟨⟨hp.n, hp.s1, hp.s2, hp.s3, hp.s4, hp.s5⟩, by simp only; rw [h.ig]⟩, by trivial, by trivial⟩
theorem b1h {l : List Alm} {s : List Ser} {a : List Opr} {t : Int} (ht : 0 <= t) (hup : a0w Alm.k l) (ha : ∀ x ∈ a, x.kd = 2 -> x.at_ < x.un) (hkd : ∀ x ∈ a, 1 <= x.kd ∧ x.kd <= 3) : ∀ (C : List Ev) (σ : Sit) (r : Rst), c1y l s a t σ r ->
  (∀ e ∈ C, ∃ k, k < a.length ∧ (a.getD k default).at_ = t ∧ e = ⟨t, 2, v7 l (a.getD k default).al, false, k⟩) ->
  c1y l s a t (C.foldl (fun s e => C6 l a e s) σ) ((C.map (phE a)).foldl (fun r e => doR l a e.d r) r) ∧ (C.foldl (fun s e => C6 l a e s) σ).td = σ.td ∧ (C.foldl (fun s e => C6 l a e s) σ).out = σ.out
 | [], σ, r, h, _ => ⟨h, rfl, rfl⟩
 | e :: C, σ, r, h, hc => by
  obtain ⟨k, hk, hat, rfl⟩ := hc _ List.mem_cons_self
  obtain ⟨h1, h2, h3⟩ := b6N ht hup ha hkd h hk hat
  have hph : (phE a ⟨t, 2, v7 l (a.getD k default).al, false, k⟩).d = .act k := by rw [b2G rfl]; simp
  obtain ⟨i1, i2, i3⟩ := b1h ht hup ha hkd C _ _ h1 fun f hf => hc f (by simp [hf])
  grind
section
variable {l : List Alm} {s : List Ser} {a : List Opr}
/-! ### lists of events -/
theorem c4V : Ord (b5w a) (evs l s a) := x6 (evSwo a) (p := fun _ => True) fun _ _ => trivial
theorem c1R : (evs l s a).Pairwise fun x y => x.a <= y.a ∧ (x.a = y.a -> x.k <= y.k) := by
 refine (c4V (l := l) (s := s) (a := a)).imp fun {x y} h => ?_
 unfold ltC at h
 rw [N9] at h
 unfold ltE at h
 constructor
 ·apply Classical.byContradiction; intro c; exact h (.inl (by omega))
 ·intro e; apply Classical.byContradiction; intro c; exact h (.inr ⟨e.symm, .inl (by omega)⟩)
theorem b4O : (Y6 l s a).Pairwise fun x y => x.a <= y.a ∧ (x.a = y.a -> x.o <= y.o) := by
 have h0 : Ord a5Y (Y6 l s a) := x6 revSwo (p := fun _ => True) fun _ _ => trivial
 refine h0.imp fun {x y} h => ?_
 unfold ltC at h
 rw [O2] at h
 unfold ltR at h
 constructor
 ·apply Classical.byContradiction; intro c; exact h (.inl (by omega))
 ·intro e; apply Classical.byContradiction; intro c; exact h (.inr ⟨e.symm, .inl (by omega)⟩)
theorem mem_evs {e : Ev} : e ∈ evs l s a ↔ e ∈ Z5 l s a := ssort_mem
theorem a2R {e : Rev} : ∀ {l : List Alm} {j : Nat}, e ∈ Z6 s j l -> e.o = 0
 | [], j, h => by simp [Z6] at h
 | x :: l, j, h => by
  rw [Z6, List.mem_append] at h
  rcases h with h | h
  ·unfold rvA at h
   obtain ⟨v, _, hm⟩ := List.mem_flatMap.1 h
   unfold rvW at hm
   rcases List.mem_cons.1 hm with rfl | hm
   ·rfl
   ·split at hm
    ·simp at hm; subst hm; rfl
    ·simp at hm
  ·exact a2R h
theorem a3s {e : Rev} : ∀ {r : List Opr} {j : Nat}, e ∈ a0L j r -> e.o = 2 ∨ (e.o = 1 ∧ e.d = .nop ∧ e.a < 345686400000 ∧ ∃ x ∈ r, x.kd = 2 ∧ e.a = x.un)
 | [], j, h => by simp [a0L] at h
 | x :: r, j, h => by
  rw [a0L, List.mem_append] at h
  rcases h with h | h
  ·unfold rvB at h
   rcases List.mem_cons.1 h with rfl | h
   ·exact .inl rfl
   ·split at h
    ·rename_i hc
     simp at h; subst h; exact .inr ⟨rfl, rfl, hc.2, x, by simp, hc.1, rfl⟩
    ·simp at h
  ·rcases a3s h with h | ⟨h1, h2, h3, y, hy, h4⟩
   ·exact .inl h
   ·exact .inr ⟨h1, h2, h3, y, by simp [hy], h4⟩
theorem c0R {e : Rev} (h : e ∈ Y6 l s a) : e.o = 0 ∨ (e.o = 1 ∧ e.d = .nop) ∨ e.o = 2 := by
 have h := ssort_mem.1 h
 unfold H7 at h
 rcases List.mem_append.1 h with h | h
 ·exact .inl (a2R h)
 ·rcases a3s h with h | h
  ·exact .inr (.inr h)
  ·exact .inr (.inl ⟨h.1, h.2.1⟩)
theorem b4J : ∀ {r : List Opr} {j : Nat} {x : Opr}, x ∈ r -> x.kd = 2 -> x.un < 345686400000 -> ∃ e ∈ a0L j r, e.a = x.un ∧ e.o = 1
 | [], _, x, h, _, _ => by cases h
 | y :: r, j, x, h, h1, h2 => by
  rw [a0L]
  rcases List.mem_cons.1 h with rfl | h
  ·refine ⟨⟨x.un, 1, emp, 0, .nop⟩, ?_, rfl, rfl⟩
   unfold rvB
   rw [if_pos ⟨h1, h2⟩]; simp
  ·obtain ⟨e, he, h3⟩ := b4J (j := j + 1) h h1 h2
   exact ⟨e, by simp [he], h3⟩
abbrev gE (l : List Alm) (s : List Ser) (a : List Opr) (t : Int) : List Ev := atM Ev.a (evs l s a) t
abbrev gR (l : List Alm) (s : List Ser) (a : List Opr) (t : Int) : List Rev := atM Rev.a (Y6 l s a) t
abbrev kE (k t : Int) (l : List Alm) (s : List Ser) (a : List Opr) : List Ev := (gE l s a t).filter fun e => decide (e.k = k)
abbrev kR (k t : Int) (l : List Alm) (s : List Ser) (a : List Opr) : List Rev := (gR l s a t).filter fun e => decide (e.o = k)
theorem d2Z {t : Int} : (gE l s a t).Pairwise fun x y => x.k <= y.k := by
 refine ((c1R (l := l) (s := s) (a := a)).filter _).imp_of_mem fun {x y} hx hy h => ?_
 have h1 := (List.mem_filter.1 hx).2
 have h2 := (List.mem_filter.1 hy).2
 simp at h1 h2
 exact h.2 (by omega)
theorem d4q {t : Int} : (gR l s a t).Pairwise fun x y => x.o <= y.o := by
 refine ((b4O (l := l) (s := s) (a := a)).filter _).imp_of_mem fun {x y} hx hy h => ?_
 have h1 := (List.mem_filter.1 hx).2
 have h2 := (List.mem_filter.1 hy).2
 simp at h1 h2
 exact h.2 (by omega)
theorem a8P (t : Int) : gE l s a t = kE 0 t l s a ++ (kE 1 t l s a ++ kE 2 t l s a) :=
 a7h d2Z fun e he => by
  rcases a5E (mem_evs.1 (List.mem_filter.1 he).1) with ⟨_, _, h, _⟩ | ⟨_, _, h⟩ | ⟨_, _, _, _, h⟩
  ·exact .inl h
  ·exact .inr (.inr (by rw [h]))
  ·exact .inr (.inl (by rw [h]))
theorem a7P (t : Int) : gR l s a t = kR 0 t l s a ++ (kR 1 t l s a ++ kR 2 t l s a) :=
 a7h d4q fun e he => by
  rcases c0R (List.mem_filter.1 he).1 with h | h | h
  ·exact .inl h
  ·exact .inr (.inl h.1)
  ·exact .inr (.inr h)
theorem c3I (e : Ev) : (phE a e).a = e.a := by unfold phE; split <;> rfl
theorem d4g (e : Ev) (h : e.k ≠ 1) (h2 : e.k = 0 ∨ e.k = 1 ∨ e.k = 2) : (phE a e).o = e.k := by unfold phE; split <;> (simp only; omega)
theorem b7i (hw : a1E s l) (ha : ∀ x ∈ a, x.at_ < 345686400000) {t : Int} (ht : t < 345686400000) {k : Int} (hk : k ≠ 1) : kR k t l s a = (kE k t l s a).map (phE a) := by
 have h := a6l hw ha
 have e1 : kR k t l s a = ((Y6 l s a).filter qR).filter fun e => decide (e.o = k ∧ e.a = t) := by
  unfold kR gR atM
  rw [List.filter_filter, List.filter_filter]
  refine List.filter_congr fun x _ => ?_
  unfold qR
  by_cases h1 : x.o = k
  ·simp [h1, hk]
  ·simp [h1]
 have e2 : kE k t l s a = ((evs l s a).filter qE).filter fun e => decide (e.k = k ∧ e.a = t) := by
  unfold kE gE atM
  rw [List.filter_filter, List.filter_filter]
  refine List.filter_congr fun x _ => ?_
  unfold qE
  by_cases h1 : x.k = k
  ·by_cases h2 : x.a = t
   ·simp [h1, h2, hk, ht]
   ·simp [h1, h2]
  ·simp [h1]
 rw [e1, e2, h, List.filter_map]
 congr 1
 refine List.filter_congr fun x hx => ?_
 obtain ⟨hx1, hx2⟩ := List.mem_filter.1 hx
 have hx3 : x.k ≠ 1 := by unfold qE at hx2; simp at hx2; exact hx2.1
 have hx4 : x.k = 0 ∨ x.k = 1 ∨ x.k = 2 := by
  rcases a5E (mem_evs.1 hx1) with ⟨_, _, h, _⟩ | ⟨_, _, h⟩ | ⟨_, _, _, _, h⟩
  ·exact .inl h
  ·exact .inr (.inr (by rw [h]))
  ·exact .inr (.inl (by rw [h]))
 simp only [Function.comp, c3I, d4g x hx3 hx4]
/-! ### at most one change of an alarm at a moment -/
theorem a9d {i : Int} {t : Int} : ∀ {W : List (Int × Int)} {lo : Int}, Fcs lo W -> (∀ e ∈ W.flatMap (fun v => [(⟨v.1, 0, i, true, 0⟩ : Ev), ⟨v.2, 0, i, false, 0⟩]), lo <= e.a) ∧ ((W.flatMap fun v => [(⟨v.1, 0, i, true, 0⟩ : Ev), ⟨v.2, 0, i, false, 0⟩]).filter fun e => decide (e.a = t)).length <= 1
 | [], lo, _ => ⟨fun e he => by simp at he, by simp⟩
 | v :: W, lo, h => by
  obtain ⟨h1, h2, h3, h4⟩ := h
  obtain ⟨i1, i2⟩ := a9d (i := i) (t := t) h4
  rw [List.flatMap_cons]
  refine ⟨fun e he => ?_, ?_⟩
  ·rcases List.mem_append.1 he with he | he
   ·simp only [List.mem_cons, List.not_mem_nil, or_false] at he
    rcases he with rfl | rfl <;> (simp only; omega)
   ·have := i1 e he; omega
  ·rw [List.filter_append, List.length_append]
   by_cases c : t <= v.2
   ·have : (W.flatMap fun v => [(⟨v.1, 0, i, true, 0⟩ : Ev), ⟨v.2, 0, i, false, 0⟩]).filter (fun e => decide (e.a = t)) = [] := List.filter_eq_nil_iff.2 fun x hx => by have := i1 x hx; simp; omega
    rw [this]
    by_cases c1 : v.1 = t
    ·have c2 : ¬v.2 = t := by omega
     simp [List.filter_cons, c1, c2]
    ·by_cases c2 : v.2 = t <;> simp [List.filter_cons, c1, c2]
   ·have c1 : ¬v.1 = t := by omega
    have c2 : ¬v.2 = t := by omega
    simp only [List.filter_cons, c1, c2, decide_false, Bool.false_eq_true, if_false, List.filter_nil, List.length_nil]
    omega
theorem a7M {i : Int} {t : Int} : ∀ {l : List Alm} {j : Int}, a1E s l -> ((O8 s j l).filter fun e => decide (e.al = i ∧ e.a = t)).length <= 1
 | [], j, _ => by simp [O8]
 | x :: l, j, h => by
  have ih := a7M (i := i) (t := t) (l := l) (j := j + 1) fun y hy => h y (by simp [hy])
  have hx := h x (by simp)
  have hal : ∀ e ∈ evA s j x, e.al = j := fun e he => by
   unfold evA at he
   obtain ⟨v, _, hm⟩ := List.mem_flatMap.1 he
   simp only [List.mem_cons, List.not_mem_nil, or_false] at hm
   rcases hm with rfl | rfl <;> rfl
  rw [O8, List.filter_append, List.length_append]
  by_cases c : j = i
  ·have e1 : (O8 s (j + 1) l).filter (fun e => decide (e.al = i ∧ e.a = t)) = [] := List.filter_eq_nil_iff.2 fun y hy => by have := ((a2T s l (j + 1)).2 y hy).1; simp; omega
   have e2 : (evA s j x).filter (fun e => decide (e.al = i ∧ e.a = t)) = (evA s j x).filter fun e => decide (e.a = t) := List.filter_congr fun y hy => by simp [hal y hy, c]
   rw [e1, e2]
   have := (a9d (i := j) (t := t) hx).2
   unfold evA
   simp only [List.length_nil, Nat.add_zero]
   exact this
  ·have e1 : (evA s j x).filter (fun e => decide (e.al = i ∧ e.a = t)) = [] := List.filter_eq_nil_iff.2 fun y hy => by simp [hal y hy, c]
   rw [e1]
   simpa using ih
theorem d0g (hw : a1E s l) (t i : Int) : ((kE 0 t l s a).filter fun e => decide (e.al = i)).length <= 1 := by
 have e : (kE 0 t l s a).filter (fun e => decide (e.al = i)) = n5 (b5w a) ((Z5 l s a).filter fun e => decide (e.al = i ∧ e.k = 0 ∧ e.a = t)) := by
  rw [<- P9 (evSwo a)]
  unfold kE gE atM evs
  rw [List.filter_filter, List.filter_filter]
  refine List.filter_congr fun x _ => ?_
  by_cases h1 : x.al = i <;> by_cases h2 : x.k = 0 <;> by_cases h3 : x.a = t <;> simp [h1, h2, h3]
 rw [e, e6]
 unfold Z5
 rw [List.filter_append, List.length_append]
 have e2 : (V4 l 0 a).filter (fun e => decide (e.al = i ∧ e.k = 0 ∧ e.a = t)) = [] := List.filter_eq_nil_iff.2 fun x hx => by
  obtain ⟨k, _, hm⟩ := N7 hx
  unfold evB at hm
  rcases List.mem_cons.1 hm with rfl | hm
  ·simp
  ·split at hm
   ·simp at hm; subst hm; simp
   ·simp at hm
 have e3 : (O8 s 0 l).filter (fun e => decide (e.al = i ∧ e.k = 0 ∧ e.a = t)) = (O8 s 0 l).filter fun e => decide (e.al = i ∧ e.a = t) := List.filter_congr fun x hx => by have := ((a2T s l 0).2 x hx).2; simp [this]
 rw [e2, e3]
 simpa using a7M (i := i) (t := t) (j := 0) hw
theorem a5G : ∀ {A : List Ev}, (∀ i : Int, (A.filter fun e => decide (e.al = i)).length <= 1) -> A.Pairwise fun x y => x.al ≠ y.al
 | [], _ => List.Pairwise.nil
 | e :: A, h => by
  refine List.pairwise_cons.2 ⟨fun f hf he => ?_, a5G fun i => Nat.le_trans (by rw [List.filter_cons]; split <;> simp) (h i)⟩
  have := h e.al
  rw [List.filter_cons, if_pos (by simp)] at this
  have h2 : f ∈ A.filter fun x => decide (x.al = e.al) := List.mem_filter.2 ⟨hf, by simp [he]⟩
  have := List.length_pos_of_mem h2
  simp only [List.length_cons] at *
  omega
theorem c1L {i : Nat} (hi : i < l.length) {w : Int × Int} (hw : w ∈ m8 s (l.getD i default)) : (⟨w.1, 0, i, true, 0⟩ : Ev) ∈ evs l s a ∧ (⟨w.2, 0, i, false, 0⟩ : Ev) ∈ evs l s a := by
 have : ∀ (l : List Alm) (j : Int) (i : Nat), i < l.length -> ∀ w ∈ m8 s (l.getD i default), (⟨w.1, 0, j + i, true, 0⟩ : Ev) ∈ O8 s j l ∧ (⟨w.2, 0, j + i, false, 0⟩ : Ev) ∈ O8 s j l := by
  intro l
  induction l with
  | nil => intro j i h; simp at h
  | cons x l ih =>
   intro j i h w hw
   rw [O8]
   cases i with
   | zero =>
    have hw : w ∈ m8 s x := hw
    simp only [List.mem_append]
    refine ⟨.inl ?_, .inl ?_⟩ <;> exact List.mem_flatMap.2 ⟨w, hw, by simp⟩
   | succ i =>
    have := ih (j + 1) i (by simpa using h) w hw
    rw [show j + 1 + (i : Int) = j + ((i + 1 : Nat) : Int) by omega] at this
    simp only [List.mem_append]
    exact ⟨.inr this.1, .inr this.2⟩
 have := this l 0 i hi w hw
 rw [Int.zero_add] at this
 rw [mem_evs, mem_evs]
 unfold Z5
 simp only [List.mem_append]
 exact ⟨.inl this.1, .inl this.2⟩
theorem d0L {k : Nat} (hk : k < a.length) (h2 : (a.getD k default).kd = 2) (h3 : 0 <= v7 l (a.getD k default).al) : (⟨(a.getD k default).un, 1, v7 l (a.getD k default).al, false, 0⟩ : Ev) ∈ evs l s a := by
 have : ∀ (r : List Opr) (j : Int) (k : Nat), k < r.length -> (r.getD k default).kd = 2 -> 0 <= v7 l (r.getD k default).al -> (⟨(r.getD k default).un, 1, v7 l (r.getD k default).al, false, 0⟩ : Ev) ∈ V4 l j r := by
  intro r
  induction r with
  | nil => intro j k h; simp at h
  | cons x r ih =>
   intro j k h h2 h3
   rw [V4, List.mem_append]
   cases k with
   | zero =>
    have h2 : x.kd = 2 := h2
    have h3 : 0 <= v7 l x.al := h3
    refine .inl ?_
    unfold evB
    rw [if_pos ⟨h2, h3⟩]
    show _ ∈ _
    simp
   | succ k => exact .inr (ih (j + 1) k (by simpa using h) h2 h3)
 rw [mem_evs]
 unfold Z5
 exact List.mem_append.2 (.inr (this a 0 k hk h2 h3))
theorem a2J (hA : J4 l) (hw : a1E s l) (ha : ∀ x ∈ a, (x.kd = 2 -> x.at_ < x.un) ∧ (1 <= x.kd ∧ x.kd <= 3) ∧ x.at_ < 345686400000) {t : Int} (ht : 0 <= t ∧ t < 345686400000) {σ : Sit} {r : Rst} (h : c1y l s a (t - 1) σ r) :
  c1y l s a t ((gE l s a t).foldl (fun s e => C6 l a e s) σ) ((gR l s a t).foldl (fun r e => doR l a e.d r) r) ∧ ((gE l s a t).foldl (fun s e => C6 l a e s) σ).td = σ.td ∧ ((gE l s a t).foldl (fun s e => C6 l a e s) σ).out = σ.out := by
 have hup := hA.up
 have hp := h.p
 have hta : ∀ x ∈ a, x.at_ < 345686400000 := fun x hx => (ha x hx).2.2
 have m0 : ∀ e ∈ kE 0 t l s a, e ∈ evs l s a ∧ e.k = 0 ∧ e.a = t := fun e he => by
  obtain ⟨h1, h2⟩ := List.mem_filter.1 he
  obtain ⟨h3, h4⟩ := List.mem_filter.1 h1
  simp at h2 h4
  exact ⟨h3, h2, h4⟩
 have m1 : ∀ e ∈ kE 1 t l s a, e ∈ evs l s a ∧ e.k = 1 ∧ e.a = t := fun e he => by
  obtain ⟨h1, h2⟩ := List.mem_filter.1 he
  obtain ⟨h3, h4⟩ := List.mem_filter.1 h1
  simp at h2 h4
  exact ⟨h3, h2, h4⟩
 have m2 : ∀ e ∈ kE 2 t l s a, e ∈ evs l s a ∧ e.k = 2 ∧ e.a = t := fun e he => by
  obtain ⟨h1, h2⟩ := List.mem_filter.1 he
  obtain ⟨h3, h4⟩ := List.mem_filter.1 h1
  simp at h2 h4
  exact ⟨h3, h2, h4⟩
 have in0 : ∀ e ∈ evs l s a, e.k = 0 -> e.a = t -> e ∈ kE 0 t l s a := fun e h1 h2 h3 => List.mem_filter.2 ⟨List.mem_filter.2 ⟨h1, by simp [h3]⟩, by simp [h2]⟩
 have in1 : ∀ e ∈ evs l s a, e.k = 1 -> e.a = t -> e ∈ kE 1 t l s a := fun e h1 h2 h3 => List.mem_filter.2 ⟨List.mem_filter.2 ⟨h1, by simp [h3]⟩, by simp [h2]⟩
 have w0 : ∀ e ∈ kE 0 t l s a, ∃ i : Nat, i < l.length ∧ e.al = i ∧ ∃ w ∈ m8 s (l.getD i default), (e.on = true ∧ w.1 = t) ∨ (e.on = false ∧ w.2 = t) := fun e he => by
  obtain ⟨h1, h2, h3⟩ := m0 e he
  rcases a5E (mem_evs.1 h1) with ⟨i, hi, _, hal, w, hw, h | h⟩ | ⟨_, _, h⟩ | ⟨_, _, _, _, h⟩
  ·exact ⟨i, hi, hal, w, hw, .inl ⟨by rw [h], by rw [h] at h3; exact h3⟩⟩
  ·exact ⟨i, hi, hal, w, hw, .inr ⟨by rw [h], by rw [h] at h3; exact h3⟩⟩
  ·rw [h] at h2; simp at h2
  ·rw [h] at h2; simp at h2
 have wok : ∀ i, i < l.length -> Fcs 0 (m8 s (l.getD i default)) := fun i hi => hw _ (f8 l i hi)
 rw [a8P, a7P, b7i hw hta ht.2 (k := 0) (by omega), b7i hw hta ht.2 (k := 2) (by omega)]
 rw [List.foldl_append, List.foldl_append, List.foldl_append, List.foldl_append]
 obtain ⟨s0, d0, g0, o0⟩ := b2y (a := a) hup (kE 0 t l s a) σ r hp.n hp.s1 hp.s5 (fun e he => by
   obtain ⟨i, hi, hal, _⟩ := w0 e he
   exact ⟨(m0 e he).2.1, by omega, by omega⟩) (fun e he hon => by
   obtain ⟨i, hi, hal, w, hw', h | h⟩ := w0 e he
   ·rw [hon] at h; cases h.1
   ·have hlt := (wok i hi).lt w hw'
    rw [hal, Int.toNat_natCast, hp.s2 i hi]
    unfold a0y
    exact List.any_eq_true.2 ⟨w, hw', by simp; omega⟩) (a5G (d0g hw t))
 generalize hσ0 : (kE 0 t l s a).foldl (fun s e => C6 l a e s) σ = σ0 at *
 generalize hr0 : ((kE 0 t l s a).map (phE a)).foldl (fun r e => doR l a e.d r) r = r0 at *
 have hnop : ∀ (N : List Rev) (r : Rst), (∀ e ∈ N, e.d = .nop) -> N.foldl (fun r e => doR l a e.d r) r = r := by
  intro N
  induction N with
  | nil => intro r _; rfl
  | cons e N ih => intro r h; rw [List.foldl_cons, h e (by simp)]; exact ih r fun f hf => h f (by simp [hf])
 have hno := hnop (kR 1 t l s a) r0 fun e he => by
  obtain ⟨h1, h2⟩ := List.mem_filter.1 he
  rcases c0R (List.mem_filter.1 h1).1 with h | h | h
  ·simp at h2; omega
  ·exact h.2
  ·simp at h2; omega
 rw [hno]
 obtain ⟨n1, u1, d1, g1, o1⟩ := b4q (l := l) (a := a) (t := t) (kE 1 t l s a) σ0 s0.n fun e he => by
  obtain ⟨h1, h2, h3⟩ := m1 e he
  rcases a5E (mem_evs.1 h1) with ⟨_, _, h, _⟩ | ⟨_, _, h⟩ | ⟨k, _, _, h4, h⟩
  ·omega
  ·rw [h] at h2; simp at h2
  ·refine ⟨h2, h3, by rw [h]; exact h4, ?_⟩
   rw [h]
   have := N2 (fun x : Alm => decide (x.k = (a.getD k default).al)) l 0
   unfold v7 at h4 ⊢
   simp only; omega
 generalize hσ1 : (kE 1 t l s a).foldl (fun s e => C6 l a e s) σ0 = σ1 at *
 have hS : c1y l s a t σ1 r0 := by
  refine ⟨⟨n1, fun i hi => ?_, fun i hi => ?_, fun i hi => ?_, fun i hi hsh hps => ?_, fun i hi => ?_⟩, ?_⟩
  ·rw [s0.s1 i hi, u1 i hi]; split <;> rfl
  ·have e1 : (σ1.st.getD i default).ac = (σ0.st.getD i default).ac := by rw [u1 i hi]; split <;> rfl
   rw [e1]
   unfold a0y
   by_cases c1 : ∃ w ∈ m8 s (l.getD i default), w.1 = t
   ·obtain ⟨w, hw1, hw2⟩ := c1
    have hm := in0 _ (c1L (a := a) hi hw1).1 rfl hw2
    have := s0.hit _ hm
    simp only [Int.toNat_natCast] at this
    rw [this]
    exact (List.any_eq_true.2 ⟨w, hw1, by have := (wok i hi).lt w hw1; simp; omega⟩).symm
   ·by_cases c2 : ∃ w ∈ m8 s (l.getD i default), w.2 = t
    ·obtain ⟨w, hw1, hw2⟩ := c2
     have hm := in0 _ (c1L (a := a) hi hw1).2 rfl hw2
     have := s0.hit _ hm
     simp only [Int.toNat_natCast] at this
     rw [this]
     symm
     rw [List.any_eq_false]
     intro v hv
     have hone : ∀ {W : List (Int × Int)} {lo : Int}, Fcs lo W -> ∀ v ∈ W, ∀ w ∈ W, w.2 = t -> v.1 <= t ∧ t < v.2 -> False := by
      intro W
      induction W with
      | nil => intro lo _ v hv; cases hv
      | cons x W ih =>
       intro lo h v hv w hw hwt hvt
       obtain ⟨_, x2, _, x4⟩ := h
       rcases List.mem_cons.1 hv with e1 | hv1 <;> rcases List.mem_cons.1 hw with e2 | hw1
       ·rw [e1] at hvt; rw [e2] at hwt; omega
       ·rw [e1] at hvt; have := x4.lt w hw1; omega
       ·rw [e2] at hwt; have := x4.lt v hv1; omega
       ·exact ih x4 v hv1 w hw1 hwt hvt
     simp only [decide_eq_true_eq]
     exact fun hc => hone (wok i hi) v hv w hw1 hw2 hc
    ·have hel := s0.els i hi fun e he heq => by
      obtain ⟨j, hj, hal, w, hw', h | h⟩ := w0 e he
      ·obtain rfl : j = i := by omega
       exact c1 ⟨w, hw', h.2⟩
      ·obtain rfl : j = i := by omega
       exact c2 ⟨w, hw', h.2⟩
     rw [hel, hp.s2 i hi]
     unfold a0y
     have hc : ∀ w ∈ m8 s (l.getD i default), decide (w.1 <= t - 1 ∧ t - 1 < w.2) = decide (w.1 <= t ∧ t < w.2) := fun w hw' => by
      have h1 : w.1 ≠ t := fun e => c1 ⟨w, hw', e⟩
      have h2 : w.2 ≠ t := fun e => c2 ⟨w, hw', e⟩
      by_cases h3 : w.1 <= t ∧ t < w.2
      ·rw [decide_eq_true h3, decide_eq_true (by omega)]
      ·rw [decide_eq_false h3, decide_eq_false (by omega)]
     generalize m8 s (l.getD i default) = W at hc
     induction W with
     | nil => rfl
     | cons w W ih => rw [List.any_cons, List.any_cons, hc w (by simp), ih fun v hv => hc v (by simp [hv])]
  ·have e3 := hp.s3 i hi
   have e4 := s0.un i hi
   rw [u1 i hi, s0.sh]
   rw [e3] at e4
   by_cases c1 : mgt (l.getD i default).k r.sh > t
   ·rw [if_pos c1]
    rw [if_pos (by omega)] at e4
    rw [if_neg (fun c => by omega)]
    exact e4
   ·rw [if_neg c1]
    by_cases c2 : mgt (l.getD i default).k r.sh > t - 1
    ·rw [if_pos c2] at e4
     by_cases c3 : 0 < mgt (l.getD i default).k r.sh
     ·obtain ⟨k, k1, k2, k3, k4⟩ := hp.s4 i hi c2 c3
      have hm := in1 _ (d0L (s := s) k1 k2 (by omega)) rfl (by simp only; omega)
      rw [if_pos ⟨by omega, ⟨_, hm, k3⟩⟩]
     ·split
      ·rfl
      ·omega
    ·rw [if_neg c2] at e4
     split
     ·rfl
     ·exact e4
  ·rw [s0.sh] at hsh ⊢
   exact hp.s4 i hi (by omega) (by omega)
  ·have e1 : (σ1.st.getD i default).ac = (σ0.st.getD i default).ac ∧ (σ1.st.getD i default).bl = (σ0.st.getD i default).bl ∧ (σ1.st.getD i default).ak = (σ0.st.getD i default).ak := by rw [u1 i hi]; split <;> exact ⟨rfl, rfl, rfl⟩
   rw [e1.1, e1.2.1, e1.2.2]
   exact s0.s5 i hi
  ·rw [s0.ig, h.ig, g1, g0]
 obtain ⟨h2, d2, o2⟩ := b1h ht.1 hup (fun x hx => (ha x hx).1) (fun x hx => (ha x hx).2.1) (kE 2 t l s a) σ1 r0 hS fun e he => by
  obtain ⟨h1, h2, h3⟩ := m2 e he
  rcases a5E (mem_evs.1 h1) with ⟨_, _, h, _⟩ | ⟨k, hk, h⟩ | ⟨_, _, _, _, h⟩
  ·omega
  ·refine ⟨k, hk, by rw [h] at h3; exact h3, ?_⟩
   rw [h] at h3 ⊢
   simp only at h3
   rw [h3]
  ·rw [h] at h2; simp at h2
 exact ⟨h2, d2.trans (d1.trans d0), o2.trans (o1.trans o0)⟩
/-! ### what is told -/
structure d3O (l : List Alm) (σ : Sit) (g : Rlg) : Prop where
 n : σ.td.length = l.length
 k : ∀ i, i < l.length -> (σ.td.getD i default).al = (l.getD i default).k
 la : ∀ i, i < l.length -> mgt (l.getD i default).k g.la = (σ.td.getD i default).st
 out : g.out = σ.out
theorem c8t (hA : J4 l) {t : Int} (ht : 0 <= t) {σ : Sit} {r : Rst} (h : SimP l s a t σ.st r) {i : Nat} (hi : i < l.length) : V3 (upA l) σ.st i = c0J l s r (l.getD i default) t := by
 have eu : (upA l).getD i [] = G9 l (l.length + 1) (l.getD i default) := t7 (fun x => G9 l (l.length + 1) x) l i [] hi
 unfold V3 c0J
 rw [eu]
 have hany : (G9 l (l.length + 1) (l.getD i default)).any (fun k => (σ.st.getD k.toNat default).ac) = (G9 l (l.length + 1) (l.getD i default)).any fun j => a0y s (l.getD j.toNat default) t := by
  have hin := a8W hA (l.length + 1) _ (f8 l i hi)
  generalize G9 l (l.length + 1) (l.getD i default) = P at hin
  induction P with
  | nil => rfl
  | cons k P ih =>
   have hk := hin k (by simp)
   rw [List.any_cons, List.any_cons, ih fun j hj => hin j (by simp [hj]), h.s2 k.toNat (by omega)]
 rw [hany, h.s3 i hi, h.s1 i hi]
 by_cases c : mgt (l.getD i default).k r.sh > t
 ·rw [if_pos c]
  split
  ·rfl
  ·by_cases c2 : mgt (l.getD i default).k r.sh > 0
   ·rw [if_pos c2]
   ·rw [if_neg c2]; omega
 ·rw [if_neg c, if_neg (show ¬(0 : Int) > 0 by omega), if_neg c]
theorem c1e (up : List (List Int)) (at_ : Int) (n i : Nat) (s : Sit) : a0D up at_ (n + 1) i s = a0D up at_ n (i + 1) (if V3 up s.st i ≠ (s.td.getD i default).st then { s with td := s.td.set i ⟨(s.td.getD i default).al, V3 up s.st i, at_⟩, out := s.out ++ [⟨(s.td.getD i default).al, V3 up s.st i, at_⟩] } else s) := rfl
theorem a5j (up : List (List Int)) (t : Int) : ∀ (n i : Nat) (σ : Sit), (∀ j, i <= j -> j < i + n -> (σ.td.getD j default).st = V3 up σ.st j) -> a0D up t n i σ = σ
 | 0, _, _, _ => rfl
 | n + 1, i, σ, h => by
  rw [c1e, if_neg (fun c => c (h i (by omega) (by omega)).symm)]
  exact a5j up t n (i + 1) σ fun j h1 h2 => h j (by omega) (by omega)
theorem b2Y (hA : J4 l) {t : Int} (ht : 0 <= t) : ∀ (n i : Nat) (σ : Sit) (g : Rlg), n + i = l.length -> SimP l s a t σ.st g.r -> d3O l σ g -> (∀ j, j < i -> (σ.td.getD j default).st = V3 (upA l) σ.st j) ->
  (a0D (upA l) t n i σ).st = σ.st ∧ (a0D (upA l) t n i σ).ig = σ.ig ∧ ((l.drop i).foldl (fun g x => rpX l s t x g) g).r = g.r ∧ d3O l (a0D (upA l) t n i σ) ((l.drop i).foldl (fun g x => rpX l s t x g) g) ∧ ∀ j, j < l.length -> ((a0D (upA l) t n i σ).td.getD j default).st = V3 (upA l) σ.st j
 | 0, i, σ, g, hn, _, h, hf => by
  rw [List.drop_eq_nil_of_le (by omega)]
  exact ⟨rfl, rfl, rfl, h, fun j hj => hf j (by omega)⟩
 | n + 1, i, σ, g, hn, hs, h, hf => by
  have hi : i < l.length := by omega
  rw [c1e, m5 l i hi, List.foldl_cons]
  have hr := c8t hA ht hs hi
  have hla := h.la i hi
  have hk := h.k i hi
  have hrx : rpX l s t (l.getD i default) g = if V3 (upA l) σ.st i ≠ (σ.td.getD i default).st then { g with la := mpt (l.getD i default).k (V3 (upA l) σ.st i) g.la, out := g.out ++ [⟨(l.getD i default).k, V3 (upA l) σ.st i, t⟩] } else g := by
   unfold rpX
   rw [<- hr, hla]
  rw [hrx]
  by_cases c : V3 (upA l) σ.st i ≠ (σ.td.getD i default).st
  ·rw [if_pos c, if_pos c]
   have hg1 : ∀ x : Std, (σ.td.set i x).getD i default = x := fun x => by rw [J8, if_pos ⟨rfl, by rw [h.n]; exact hi⟩]
   have hg2 : ∀ (x : Std) (j : Nat), i ≠ j -> (σ.td.set i x).getD j default = σ.td.getD j default := fun x j hj => by rw [J8, if_neg (fun c => hj c.1)]
   have := b2Y hA ht n (i + 1) { σ with td := σ.td.set i ⟨(σ.td.getD i default).al, V3 (upA l) σ.st i, t⟩, out := σ.out ++ [⟨(σ.td.getD i default).al, V3 (upA l) σ.st i, t⟩] } { g with la := mpt (l.getD i default).k (V3 (upA l) σ.st i) g.la, out := g.out ++ [⟨(l.getD i default).k, V3 (upA l) σ.st i, t⟩] } (by omega) hs ⟨by simp [h.n], fun j hj => ?_, fun j hj => ?_, by simp only; rw [h.out, hk]⟩ fun j hj => ?_
   ·exact this
   ·by_cases hij : i = j
    ·subst hij; simp only; rw [hg1]; exact hk
    ·simp only; rw [hg2 _ j hij]; exact h.k j hj
   ·by_cases hij : i = j
    ·subst hij; simp only; rw [hg1, G3, if_pos rfl]
    ·simp only; rw [hg2 _ j hij, G3, if_neg (fun e => hij (N8 hA.up hi hj e))]; exact h.la j hj
   ·by_cases hij : i = j
    ·subst hij; simp only; rw [hg1]
    ·simp only; rw [hg2 _ j hij]; exact hf j (by omega)
  ·rw [if_neg c, if_neg c]
   refine b2Y hA ht n (i + 1) σ g (by omega) hs h fun j hj => ?_
   by_cases hij : i = j
   ·subst hij; exact (Classical.byContradiction fun e => c (Ne.symm e))
   ·exact hf j (by omega)
structure c8B (l : List Alm) (s : List Ser) (a : List Opr) (t : Int) (σ : Sit) (g : Rlg) : Prop where
 sim : c1y l s a t σ g.r
 told : d3O l σ g
 fr : ∀ j, j < l.length -> (σ.td.getD j default).st = V3 (upA l) σ.st j
theorem a8t : ∀ (F : List Rev) (g : Rlg), F.foldl (fun g e => apR l a e g) g = { g with r := F.foldl (fun r e => doR l a e.d r) g.r }
 | [], g => rfl
 | e :: F, g => by rw [List.foldl_cons, a8t F]; rfl
theorem b5O (hA : J4 l) (hw : a1E s l) (ha : ∀ x ∈ a, (x.kd = 2 -> x.at_ < x.un) ∧ (1 <= x.kd ∧ x.kd <= 3) ∧ x.at_ < 345686400000) {t : Int} (ht : 0 <= t ∧ t < 345686400000) {σ : Sit} {g : Rlg} (h : c8B l s a (t - 1) σ g) :
  c8B l s a t (if gE l s a t = [] then σ else a0D (upA l) t l.length 0 ((gE l s a t).foldl (fun s e => C6 l a e s) σ)) (if gR l s a t = [] then g else rpR l s t ((gR l s a t).foldl (fun g e => apR l a e g) g)) := by
 obtain ⟨m1, m2, m3⟩ := a2J hA hw ha ht h.sim
 have hta : ∀ x ∈ a, x.at_ < 345686400000 := fun x hx => (ha x hx).2.2
 by_cases hR : gR l s a t = []
 ·have hE : gE l s a t = [] := by
   have hsp := a7P (l := l) (s := s) (a := a) t
   rw [hR] at hsp
   have hsp := hsp.symm
   rw [List.append_eq_nil_iff, List.append_eq_nil_iff, b7i hw hta ht.2 (k := 0) (by omega), b7i hw hta ht.2 (k := 2) (by omega), List.map_eq_nil_iff, List.map_eq_nil_iff] at hsp
   rw [a8P, hsp.1, hsp.2.2, List.nil_append, List.append_nil]
   apply List.eq_nil_iff_forall_not_mem.2
   intro e he
   obtain ⟨h1, h2⟩ := List.mem_filter.1 he
   obtain ⟨h3, h4⟩ := List.mem_filter.1 h1
   simp at h2 h4
   rcases a5E (mem_evs.1 h3) with ⟨_, _, hh, _⟩ | ⟨_, _, hh⟩ | ⟨k, hk, k2, k3, hh⟩
   ·omega
   ·rw [hh] at h2; simp at h2
   ·rw [hh] at h4
    simp only at h4
    obtain ⟨f, hf, f1, _⟩ := b4J (j := 0) (f8 a k hk) k2 (by omega)
    have : f ∈ gR l s a t := List.mem_filter.2 ⟨ssort_mem.2 (List.mem_append.2 (.inr hf)), by simp; omega⟩
    rw [hR] at this; cases this
  rw [if_pos hE, if_pos hR]
  rw [hE, hR] at m1
  exact ⟨m1, h.told, h.fr⟩
 ·rw [if_neg hR, a8t]
  have hE : (if gE l s a t = [] then σ else a0D (upA l) t l.length 0 ((gE l s a t).foldl (fun s e => C6 l a e s) σ)) = a0D (upA l) t l.length 0 ((gE l s a t).foldl (fun s e => C6 l a e s) σ) := by
   by_cases c : gE l s a t = []
   ·rw [if_pos c, c]
    exact (a5j (upA l) t l.length 0 σ fun j _ hj => h.fr j (by omega)).symm
   ·rw [if_neg c]
  rw [hE]
  generalize (gE l s a t).foldl (fun s e => C6 l a e s) σ = σ' at *
  generalize (gR l s a t).foldl (fun r e => doR l a e.d r) g.r = r' at *
  obtain ⟨p1, p2, p3, p4, p5⟩ := b2Y hA ht.1 l.length 0 σ' { g with r := r' } (by omega) m1.p ⟨by rw [m2]; exact h.told.n, by rw [m2]; exact h.told.k, by rw [m2]; exact h.told.la, by rw [m3]; exact h.told.out⟩ (fun j hj => by omega)
  rw [List.drop_zero] at p3 p4
  refine ⟨⟨?_, ?_⟩, p4, fun j hj => ?_⟩
  ·show SimP l s a t _ (l.foldl (fun g x => rpX l s t x g) { g with r := r' }).r
   rw [p1, p3]; exact m1.p
  ·show (l.foldl (fun g x => rpX l s t x g) { g with r := r' }).r.ig = _
   rw [p2, p3]; exact m1.ig
  ·rw [p1]; exact p5 j hj
theorem c0X (hA : J4 l) (hw : a1E s l) (ha : ∀ x ∈ a, (x.kd = 2 -> x.at_ < x.un) ∧ (1 <= x.kd ∧ x.kd <= 3) ∧ x.at_ < 345686400000) : ∀ (n : Nat) (t : Int) (σ : Sit) (g : Rlg), 0 <= t -> t + n <= 345686400000 -> c8B l s a (t - 1) σ g ->
  ∃ t', c8B l s a t' (moG Ev.a (C6 l a) (fun t s => a0D (upA l) t l.length 0 s) (evs l s a) n t σ) (moG Rev.a (apR l a) (rpR l s) (Y6 l s a) n t g)
 | 0, t, σ, g, _, _, h => ⟨_, h⟩
 | n + 1, t, σ, g, h0, h1, h => by
  have := b5O hA hw ha (t := t) ⟨h0, by omega⟩ h
  rw [moG, moG]
  exact c0X hA hw ha n (t + 1) _ _ (by omega) (by omega) (by rw [Int.add_sub_cancel]; exact this)
theorem b1i : ∀ (l : List Alm) (m : List (ByteArray × Int)) (k : ByteArray), mgt k (l.foldl (fun m x => mpt x.k 1 m) m) = if (∃ x ∈ l, x.k = k) then 1 else mgt k m
 | [], m, k => by simp
 | x :: l, m, k => by
  rw [List.foldl_cons, b1i l, G3]
  by_cases c : ∃ y ∈ l, y.k = k
  ·rw [if_pos c, if_pos (by obtain ⟨y, hy, e⟩ := c; exact ⟨y, by simp [hy], e⟩)]
  ·rw [if_neg c]
   by_cases e : x.k = k
   ·rw [if_pos e, if_pos ⟨x, by simp, e⟩]
   ·rw [if_neg e, if_neg]
    rintro ⟨y, hy, e2⟩
    rcases List.mem_cons.1 hy with rfl | hy
    ·exact e e2
    ·exact c ⟨y, hy, e2⟩
theorem c7t (hA : J4 l) (hw : a1E s l) (ha : ∀ x ∈ a, (x.kd = 2 -> x.at_ < x.un) ∧ (1 <= x.kd ∧ x.kd <= 3) ∧ (0 <= x.at_ ∧ x.at_ < 345686400000)) {to : Int} (ht : to <= 345686399999) : (rlA l s a to).out = (a6L l s a to).out ∧ (rlA l s a to).r.ig = (a6L l s a to).ig := by
 have hin : ∀ i, i < l.length -> mgt (l.getD i default).k (inM l) = 1 := fun i hi => by
  unfold inM; rw [b1i, if_pos ⟨_, f8 l i hi, rfl⟩]
 have hst : ∀ i, i < l.length -> (a0K l).st.getD i default = b2b := fun i hi => by
  show (l.map fun _ => b2b).getD i default = b2b
  rw [t7 (fun _ => b2b) l i default hi]
 have htd : ∀ i, i < l.length -> (a0K l).td.getD i default = ⟨(l.getD i default).k, 1, 0⟩ := fun i hi => by
  show (l.map fun x => (⟨x.k, 1, 0⟩ : Std)).getD i default = _
  rw [t7 (fun x : Alm => (⟨x.k, 1, 0⟩ : Std)) l i default hi]
 have hS : SimP l s a (0 - 1) (a0K l).st (rl0 l).r := by
  refine ⟨by simp [a0K], fun i hi => ?_, fun i hi => ?_, fun i hi => ?_, fun i hi h1 h2 => ?_, fun i hi h => ?_⟩
  ·rw [hst i hi]; exact hin i hi
  ·rw [hst i hi]
   symm
   show a0y s (l.getD i default) (0 - 1) = false
   unfold a0y
   rw [List.any_eq_false]
   intro w hw'
   have := (hw _ (f8 l i hi)).lt w hw'
   simp; omega
  ·rw [hst i hi]; rfl
  ·exact absurd h2 (by show ¬(0 : Int) < 0; omega)
  ·rw [hst i hi] at h; cases h
 have hrep : ∀ j, j < l.length -> V3 (upA l) (a0K l).st j = 1 := fun j hj => by
  have eu : (upA l).getD j [] = G9 l (l.length + 1) (l.getD j default) := t7 (fun x => G9 l (l.length + 1) x) l j [] hj
  unfold V3
  rw [eu]
  have hin := a8W hA (l.length + 1) _ (f8 l j hj)
  have : (G9 l (l.length + 1) (l.getD j default)).any (fun k => ((a0K l).st.getD k.toNat default).ac) = false := by
   rw [List.any_eq_false]
   intro k hk
   have := hin k hk
   rw [hst k.toNat (by omega)]; simp [b2b]
  rw [this, hst j hj]; rfl
 have hAll : c8B l s a (0 - 1) (a0K l) (rl0 l) := ⟨⟨hS, rfl⟩, ⟨by simp [a0K], fun i hi => by rw [htd i hi], fun i hi => by rw [htd i hi]; exact hin i hi, rfl⟩, fun j hj => by rw [htd j hj, hrep j hj]⟩
 have hEn : ∀ e ∈ evs l s a, 0 <= e.a := fun e he => by
  rcases a5E (mem_evs.1 he) with ⟨i, hi, _, _, w, hw', h | h⟩ | ⟨k, hk, h⟩ | ⟨k, hk, k2, _, h⟩
  ·have := (hw _ (f8 l i hi)).lt w hw'; rw [h]; exact this.1
  ·have := (hw _ (f8 l i hi)).lt w hw'; rw [h]; simp only; omega
  ·have := (ha _ (f8 a k hk)).2.2; rw [h]; exact this.1
  ·have h1 := (ha _ (f8 a k hk)).2.2
   have h2 := (ha _ (f8 a k hk)).1 k2
   rw [h]; simp only; omega
 have hRn : ∀ e ∈ Y6 l s a, 0 <= e.a := fun e he => by
  have he := ssort_mem.1 he
  unfold H7 at he
  rcases List.mem_append.1 he with h | h
  ·have h1 : e ∈ (Y6 l s a).filter qR := List.mem_filter.2 ⟨ssort_mem.2 (List.mem_append.2 (.inl h)), by simp [qR, a2R h]⟩
   rw [a6l hw fun x hx => (ha x hx).2.2.2] at h1
   obtain ⟨f, hf, rfl⟩ := List.mem_map.1 h1
   rw [c3I]; exact hEn f (List.mem_filter.1 hf).1
  ·by_cases ho : e.o = 1
   ·rcases a3s h with h2 | ⟨_, _, _, x, hx, h3, h4⟩
    ·omega
    ·have h1 := (ha x hx).2.2
     have h2 := (ha x hx).1 h3
     omega
   ·have h1 : e ∈ (Y6 l s a).filter qR := List.mem_filter.2 ⟨ssort_mem.2 (List.mem_append.2 (.inr h)), by simp [qR, ho]⟩
    rw [a6l hw fun x hx => (ha x hx).2.2.2] at h1
    obtain ⟨f, hf, rfl⟩ := List.mem_map.1 h1
    rw [c3I]; exact hEn f (List.mem_filter.1 hf).1
 unfold rlA rnR a6L
 rw [c1p, b1A (to + 1 - 0).toNat 0 _ _ rfl ((c1R (l := l) (s := s) (a := a)).imp fun h => h.1) hEn, b1A (to + 1 - 0).toNat 0 _ _ rfl ((b4O (l := l) (s := s) (a := a)).imp fun h => h.1) hRn]
 obtain ⟨t', hf⟩ := c0X hA hw (fun x hx => ⟨(ha x hx).1, (ha x hx).2.1, (ha x hx).2.2.2⟩) (to + 1 - 0).toNat 0 _ _ (by omega) (by omega) hAll
 exact ⟨hf.told.out, hf.sim.ig⟩
end
end Go.Proofs.YtnlafmigfjlnnaaGreatDoor

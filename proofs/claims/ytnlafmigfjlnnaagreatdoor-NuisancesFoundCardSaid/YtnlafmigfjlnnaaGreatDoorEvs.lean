/- Windows in which an alarm is active are apart. Plain Lean. -/
import Derived.Test.YtnlafmigfjlnnaaGreatDoorRun
import Derived.Test.YtnlafmigfjlnnaaGreatDoorAlx
set_option linter.all false
set_option maxHeartbeats 0
namespace Go.Proofs.YtnlafmigfjlnnaaGreatDoor
open Go Go.Ai
theorem a7g {kd lim db : Int} (s : Smp) (h : 0 <= db) : ¬((q7 kd lim db s).1 = true ∧ (q7 kd lim db s).2 = true) := by
 unfold q7
 all_goals grind
theorem U9 (on off un nx a : Int) (out : List (Int × Int)) (act : Bool) (t1 t2 : Int) (h1 h2 : Bool) : x8 on off un nx a true false ⟨out, act, t1, t2, h1, h2⟩ = if act = false ∧ max a ((if h1 = false then a else t1) + on) < nx ∧ max a ((if h1 = false then a else t1) + on) < un then ⟨out ++ [(max a ((if h1 = false then a else t1) + on), un)], true, if h1 = false then a else t1, t2, true, false⟩ else ⟨out, act, if h1 = false then a else t1, t2, true, false⟩ := by
 unfold x8
 all_goals grind
theorem V0 (on off un nx a : Int) (out : List (Int × Int)) (act : Bool) (t1 t2 : Int) (h1 h2 : Bool) : x8 on off un nx a false true ⟨out, act, t1, t2, h1, h2⟩ = if act = true ∧ max a ((if h2 = false then a else t2) + off) < nx ∧ max a ((if h2 = false then a else t2) + off) < un then ⟨O0 out (max a ((if h2 = false then a else t2) + off)), false, t1, if h2 = false then a else t2, false, true⟩ else ⟨out, act, t1, if h2 = false then a else t2, false, true⟩ := by
 unfold x8
 all_goals grind
theorem a1j (on off un nx a : Int) (out : List (Int × Int)) (act : Bool) (t1 t2 : Int) (h1 h2 : Bool) : x8 on off un nx a false false ⟨out, act, t1, t2, h1, h2⟩ = ⟨out, act, t1, t2, false, false⟩ := by
 unfold x8
 grind
def Asc : Int -> List Smp -> Prop
 | _, [] => True
 | lo, s :: r => lo <= s.a ∧ S8 s ∧ Asc (s.a + 1) r
theorem b6i (p : Option Smp) (x : Smp) (r : List Smp) (h : serGo p (x :: r) = 0) : p9 x = 0 ∧ (∀ y, p = some y -> y.a < x.a) ∧ serGo (some x) r = 0 := by
 rw [serGo.eq_def] at h
 all_goals grind
theorem c1l : ∀ (l : List Smp) (p : Option Smp) (lo : Int), serGo p l = 0 -> (∀ y, p = some y -> y.a + 1 = lo) -> (p = none -> lo = 0) -> Asc lo l
 | [], _, _, _, _, _ => trivial
 | x :: r, p, lo, h, h1, h2 => by
  obtain ⟨k1, k2, k3⟩ := b6i p x r h
  have h5 := (a3S k1).1
  refine ⟨?_, h5, c1l r (some x) (x.a + 1) k3 (fun y hy => by injection hy with hy; rw [hy]) (fun hn => by cases hn)⟩
  unfold S8 at h5
  cases p with
  | none => have := h2 rfl; omega
  | some y => have := h1 y rfl; have := k2 y rfl; omega
theorem c9W {l : List Smp} (h : n6 l = 0) : Asc 0 l := c1l l none 0 (a1p h).2 (fun y hy => by cases hy) (fun _ => rfl)
theorem b4V (a : List (Int × Int)) (b : Int × Int) : (a ++ [b]).getD (((a ++ [b]).length : Int) - 1).toNat default = b := by
 have e : (((a ++ [b]).length : Int) - 1).toNat = a.length := by simp
 rw [e, List.getD_eq_getElem?_getD]; simp
theorem b8T (a : List (Int × Int)) (b : Int × Int) (t : Int) : O0 (a ++ [b]) t = a ++ [(b.1, t)] := by
 unfold O0
 rw [b4V]
 have e : (((a ++ [b]).length : Int) - 1).toNat = a.length := by simp
 rw [e]; simp
theorem b5n {kd1 lim1 db1 on1 off1 kd2 lim2 db2 on2 off2 un : Int} (R : Int -> N1 -> N1 -> Prop)
  (step : ∀ (s : Smp) (lo nx : Int) (x1 x2 : N1), lo <= s.a -> S8 s -> s.a < nx -> R lo x1 x2 -> R nx (x8 on1 off1 un nx s.a (q7 kd1 lim1 db1 s).1 (q7 kd1 lim1 db1 s).2 x1) (x8 on2 off2 un nx s.a (q7 kd2 lim2 db2 s).1 (q7 kd2 lim2 db2 s).2 x2)) :
  ∀ (l : List Smp) (lo : Int) (x1 x2 : N1), Asc lo l -> R lo x1 x2 -> ∃ T, R T (L1 kd1 lim1 db1 on1 off1 un l x1) (L1 kd2 lim2 db2 on2 off2 un l x2)
 | [], lo, x1, x2, _, h => ⟨lo, h⟩
 | [s], lo, x1, x2, ha, h => by
  have h2 := ha.2.1
  unfold S8 at h2
  exact ⟨_, step s lo 345686400000 x1 x2 ha.1 ha.2.1 (by omega) h⟩
 | s :: s' :: r, lo, x1, x2, ha, h => by
  obtain ⟨h1, h2, h3, h4, h5⟩ := ha
  rw [L1, L1]
  exact b5n R step (s' :: r) s'.a _ _ ⟨by omega, h4, h5⟩ (step s lo s'.a x1 x2 h1 h2 (by omega) h)
def Fcs : Int -> List (Int × Int) -> Prop
 | _, [] => True
 | lo, w :: r => lo <= w.1 ∧ w.1 < w.2 ∧ w.2 <= 345686400000 ∧ Fcs (w.2 + 1) r
theorem a3V : ∀ {l : List (Int × Int)} {lo : Int} {w : Int × Int}, Fcs lo l -> (∀ x ∈ l, x.2 < w.1) -> lo <= w.1 -> w.1 < w.2 -> w.2 <= 345686400000 -> Fcs lo (l ++ [w])
 | [], lo, w, _, _, h1, h2, h3 => ⟨h1, h2, h3, trivial⟩
 | y :: r, lo, w, h, hx, h1, h2, h3 => ⟨h.1, h.2.1, h.2.2.1, a3V h.2.2.2 (fun x hx2 => hx x (by simp [hx2])) (by have := hx y (by simp); omega) h2 h3⟩
structure ActP (un T : Int) (x : N1) : Prop where
 c : x.act = false -> Fcs 0 x.out ∧ ∀ w ∈ x.out, w.2 < T
 o : x.act = true -> ∃ init f, x.out = init ++ [(f, un)] ∧ Fcs 0 init ∧ (∀ w ∈ init, w.2 < f) ∧ 0 <= f ∧ f < T ∧ f < un
theorem ActP.mono {un T T' : Int} {x : N1} (h : ActP un T x) (hT : T <= T') : ActP un T' x :=
 ⟨fun h1 => ⟨(h.c h1).1, fun w hw => by have := (h.c h1).2 w hw; omega⟩, fun h1 => by
  obtain ⟨init, f, k1, k2, k3, k4, k5, k6⟩ := h.o h1
  exact ⟨init, f, k1, k2, k3, k4, by omega, k6⟩⟩
theorem ActP.same {un T : Int} {x : N1} (h : ActP un T x) (t1 t2 : Int) (h1 h2 : Bool) : ActP un T ⟨x.out, x.act, t1, t2, h1, h2⟩ := ⟨h.c, h.o⟩
theorem ActP.open {un T t : Int} {x : N1} (hun : un <= 345686400000) (h : ActP un T x) (ha : x.act = false) {T' : Int} (h0 : 0 <= t) (h1 : T <= t) (h2 : t < T') (h3 : t < un) (t1 t2 : Int) (b1 b2 : Bool) : ActP un T' ⟨x.out ++ [(t, un)], true, t1, t2, b1, b2⟩ :=
 ⟨fun h => (by cases h), fun _ => ⟨x.out, t, rfl, (h.c ha).1, fun w hw => by have := (h.c ha).2 w hw; omega, h0, h2, h3⟩⟩
theorem ActP.close {un T t : Int} {x : N1} (hun : un <= 345686400000) (h : ActP un T x) (ha : x.act = true) {T' : Int} (h1 : T <= t) (h2 : t < T') (h3 : t < un) (t1 t2 : Int) (b1 b2 : Bool) : ActP un T' ⟨O0 x.out t, false, t1, t2, b1, b2⟩ := by
 obtain ⟨init, f, k1, k2, k3, k4, k5, k6⟩ := h.o ha
 refine ⟨fun _ => ?_, fun h => (by cases h)⟩
 simp only
 rw [k1, b8T]
 refine ⟨a3V k2 k3 k4 (by simp only; omega) (by simp only; omega), fun w hw => ?_⟩
 all_goals grind
theorem ActP.fcs {un T : Int} {x : N1} (hun : un <= 345686400000) (h : ActP un T x) : Fcs 0 x.out := by
 cases ha : x.act with
 | false => exact (h.c ha).1
 | true =>
  obtain ⟨init, f, k1, k2, k3, k4, k5, k6⟩ := h.o ha
  rw [k1]
  exact a3V k2 k3 k4 k6 hun
theorem b2o (kd lim db : Int) (s : Smp) (h : 0 <= db) : (q7 kd lim db s).1 = true ∧ (q7 kd lim db s).2 = false ∨ (q7 kd lim db s).1 = false ∧ (q7 kd lim db s).2 = true ∨ (q7 kd lim db s).1 = false ∧ (q7 kd lim db s).2 = false := by
 have := a7g (kd := kd) (lim := lim) (db := db) s h
 grind
theorem ActP.step {un lo nx a on off : Int} {X Y : Bool} {x : N1} (hun : un <= 345686400000) (h0 : 0 <= a) (hlo : lo <= a) (hnx : a < nx) (hXY : X = true ∧ Y = false ∨ X = false ∧ Y = true ∨ X = false ∧ Y = false) (h : ActP un lo x) : ActP un nx (x8 on off un nx a X Y x) := by
 obtain ⟨out, act, t1, t2, h1, h2⟩ := x
 rcases hXY with ⟨rfl, rfl⟩ | ⟨rfl, rfl⟩ | ⟨rfl, rfl⟩
 ·rw [U9]
  generalize (if h1 = false then a else t1) = T1
  by_cases c : act = false ∧ max a (T1 + on) < nx ∧ max a (T1 + on) < un
  ·rw [if_pos c]
   exact h.open hun c.1 (by omega) (by omega) c.2.1 c.2.2 _ _ _ _
  ·rw [if_neg c]
   exact (h.mono (by omega)).same _ _ _ _
 ·rw [V0]
  generalize (if h2 = false then a else t2) = T2
  by_cases c : act = true ∧ max a (T2 + off) < nx ∧ max a (T2 + off) < un
  ·rw [if_pos c]
   exact h.close hun c.1 (by omega) c.2.1 c.2.2 _ _ _ _
  ·rw [if_neg c]
   exact (h.mono (by omega)).same _ _ _ _
 ·rw [a1j]
  exact (h.mono (by omega)).same _ _ _ _
theorem d0R (un : Int) : ActP un 0 ⟨[], false, 0, 0, false, false⟩ := ⟨fun _ => ⟨trivial, by simp⟩, fun h => (by cases h)⟩
theorem a9Q {kd lim db on off un : Int} {l : List Smp} (hun : un <= 345686400000) (hdb : 0 <= db) (h : Asc 0 l) : Fcs 0 (b0z kd lim db on off un l) := by
 obtain ⟨T, h1⟩ := b5n (kd1 := kd) (lim1 := lim) (db1 := db) (on1 := on) (off1 := off) (kd2 := kd) (lim2 := lim) (db2 := db) (on2 := on) (off2 := off) (un := un) (fun T x _ => ActP un T x)
  (fun s lo nx x1 x2 h1 h2 h3 h4 => ActP.step hun h2.1 h1 h3 (b2o kd lim db s hdb) h4) l 0 _ ⟨[], false, 0, 0, false, false⟩ h (d0R un)
 exact h1.fcs hun
structure Ev where
 a : Int
 k : Int
 al : Int
 on : Bool
 ac : Int
instance : Inhabited Ev := ⟨⟨0, 0, 0, false, 0⟩⟩
def evS (e : Ev) : List Cel := [.g (.int .i64 e.a), .g (.int .i64 e.k), .g (.int .i64 e.al), .g (.bool e.on), .g (.int .i64 e.ac)]
theorem A0 (e : Ev) : evS e = [.g (.int .i64 e.a), .g (.int .i64 e.k), .g (.int .i64 e.al), .g (.bool e.on), .g (.int .i64 e.ac)] := (rfl)
attribute [go_sem] A0
structure Sta where
 bl : Int
 ac : Bool
 un : Int
 ak : Bool
instance : Inhabited Sta := ⟨⟨0, false, 0, false⟩⟩
def c7m (e : Sta) : List Cel := [.g (.int .i64 e.bl), .g (.bool e.ac), .g (.int .i64 e.un), .g (.bool e.ak)]
theorem J0 (e : Sta) : c7m e = [.g (.int .i64 e.bl), .g (.bool e.ac), .g (.int .i64 e.un), .g (.bool e.ak)] := (rfl)
attribute [go_sem] J0
structure Std where
 al : ByteArray
 st : Int
 si : Int
instance : Inhabited Std := ⟨⟨emp, 0, 0⟩⟩
def a8S (e : Std) : List Cel := [.g (.string e.al), .g (.int .i64 e.st), .g (.int .i64 e.si)]
theorem a3M (e : Std) : a8S e = [.g (.string e.al), .g (.int .i64 e.st), .g (.int .i64 e.si)] := (rfl)
attribute [go_sem] a3M
/-! ### the order of events -/
def b5w (a : List Opr) (x y : Ev) : Int :=
 if C3 [sd y.a x.a, sd y.k x.k] ≠ 0 ∨ x.k ≠ 2 then C3 [C3 [sd y.a x.a, sd y.k x.k], sd y.al x.al] else a2e (a.getD x.ac.toNat default) (a.getD y.ac.toNat default)
def ltO (x y : Opr) : Prop := ltS x.b y.b ∨ (x.b = y.b ∧ x.no < y.no)
theorem c3v (x y : Opr) : a2e x y < 0 ↔ ltO x y := by
 unfold a2e d4G ltO
 rcases L5 x.b y.b with ⟨h1, h2⟩ | ⟨h1, h2⟩ | ⟨h1, h2⟩
 ·rw [if_neg (by omega)]
  have h3 : ¬ltS x.b y.b := by rw [h2]; exact r8 _
  all_goals grind
 ·grind
 ·rw [if_pos (by omega), h1]
  refine ⟨fun h => by omega, ?_⟩
  rintro (h | h)
  ·exact absurd h2 (M6 h)
  ·rw [h.1] at h2; exact absurd h2 (r8 _)
theorem c5N (x : Opr) : ¬ltO x x := by
 rintro (h | h)
 ·exact r8 _ h
 ·omega
theorem c1A {x y z : Opr} (h1 : ltO x y) (h2 : ltO y z) : ltO x z := by
 rcases h1 with h1 | ⟨h1, h3⟩ <;> rcases h2 with h2 | ⟨h2, h4⟩
 ·exact .inl (P3 h1 h2)
 ·exact .inl (h2 ▸ h1)
 ·exact .inl (h1 ▸ h2)
 ·exact .inr ⟨h1.trans h2, by omega⟩
theorem c1B {x z : Opr} (y : Opr) (h : ltO x z) : ltO x y ∨ ltO y z := by
 rcases c1x x.b y.b with h1 | h1 | h1
 ·exact .inl (.inl h1)
 ·rcases h with h | ⟨h, h2⟩
  ·exact .inr (.inl (h1 ▸ h))
  ·by_cases h3 : x.no < y.no
   ·exact .inl (.inr ⟨h1, h3⟩)
   ·exact .inr (.inr ⟨h1 ▸ h, by omega⟩)
 ·rcases h with h | ⟨h, h2⟩
  ·exact .inr (.inl (P3 h1 h))
  ·exact .inr (.inl (h ▸ h1))
def ltE (a : List Opr) (x y : Ev) : Prop := x.a < y.a ∨ (x.a = y.a ∧ (x.k < y.k ∨ (x.k = y.k ∧ ((x.k ≠ 2 ∧ x.al < y.al) ∨ (x.k = 2 ∧ ltO (a.getD x.ac.toNat default) (a.getD y.ac.toNat default))))))
theorem c5t (x y : Int) : C3 [x, y] = if x ≠ 0 then x else y := by
 unfold C3 C3 C3
 all_goals grind
theorem N9 (a : List Opr) (x y : Ev) : b5w a x y < 0 ↔ ltE a x y := by
 unfold b5w ltE
 rw [c5t, c5t]
 rcases X9 y.a x.a with ⟨h1, h2⟩ | ⟨h1, h2⟩ | ⟨h1, h2⟩
 ·grind
 ·grind
 ·rw [h2]
  simp only [ne_eq, not_true_eq_false, if_false]
  rcases X9 y.k x.k with ⟨h3, h4⟩ | ⟨h3, h4⟩ | ⟨h3, h4⟩
  ·grind
  ·grind
  ·rw [h4]
   simp only [not_true_eq_false, false_or, if_false]
   by_cases h5 : x.k = 2
   ·rw [if_neg (by simpa using h5), c3v]
    grind
   ·rw [if_pos h5]
    rcases X9 y.al x.al with ⟨h6, h7⟩ | ⟨h6, h7⟩ | ⟨h6, h7⟩ <;> rw [h7]
    ·grind
    ·all_goals grind
    ·all_goals grind
theorem d0C {a : List Opr} {x z : Ev} (y : Ev) (h : ltE a x z) : ltE a x y ∨ ltE a y z := by
 unfold ltE at *
 rcases (show x.a < y.a ∨ y.a < x.a ∨ x.a = y.a by omega) with h1 | h1 | h1
 ·exact .inl (.inl h1)
 ·grind
 ·rcases h with h | ⟨h, h'⟩
  ·exact .inr (.inl (by omega))
  ·rcases (show x.k < y.k ∨ y.k < x.k ∨ x.k = y.k by omega) with h2 | h2 | h2
   ·grind
   ·grind
   ·rcases h' with h' | ⟨h3, h' | ⟨h4, h'⟩⟩
    ·grind
    ·all_goals grind
    ·rcases c1B (a.getD y.ac.toNat default) h' with h5 | h5
     ·grind
     ·grind
theorem d1S {a : List Opr} {x y z : Ev} (h1 : ltE a x y) (h2 : ltE a y z) : ltE a x z := by
 unfold ltE at *
 rcases h1 with h1 | ⟨h1, h3⟩ <;> rcases h2 with h2 | ⟨h2, h4⟩
 ·exact .inl (by omega)
 ·exact .inl (by omega)
 ·exact .inl (by omega)
 ·refine .inr ⟨by omega, ?_⟩
  rcases h3 with h3 | ⟨h3, h5⟩ <;> rcases h4 with h4 | ⟨h4, h6⟩
  ·exact .inl (by omega)
  ·exact .inl (by omega)
  ·exact .inl (by omega)
  ·refine .inr ⟨by omega, ?_⟩
   rcases h5 with h5 | ⟨h5, h7⟩ <;> rcases h6 with h6 | ⟨h6, h8⟩
   ·grind
   ·grind
   ·grind
   ·exact .inr ⟨h5, c1A h7 h8⟩
theorem c2y {a : List Opr} (x : Ev) : ¬ltE a x x := by
 rintro (h | ⟨_, h | ⟨_, h | h⟩⟩)
 ·omega
 ·omega
 ·omega
 ·exact c5N _ h.2
theorem evSwo (a : List Opr) : Swo (fun _ => True) (b5w a) where
 irr x _ h := c2y x ((N9 a x x).1 h)
 tr x y z _ _ _ h1 h2 := (N9 a x z).2 (d1S ((N9 a x y).1 h1) ((N9 a y z).1 h2))
 ntr x y z _ _ _ h1 h2 h3 := by
  rcases d0C y ((N9 a x z).1 h3) with h | h
  ·exact h1 ((N9 a x y).2 h)
  ·exact h2 ((N9 a y z).2 h)
/-! ### all events -/
def a1J (s : List Ser) (tag : ByteArray) : List Smp := if 0 <= D3 (fun x : Ser => decide (x.t = tag)) 0 s then (s.getD (D3 (fun x : Ser => decide (x.t = tag)) 0 s).toNat default).l else []
def m8 (s : List Ser) (x : Alm) : List (Int × Int) := b0z x.kd x.lim x.db x.on x.off 345686400000 (a1J s x.t)
def evA (s : List Ser) (i : Int) (x : Alm) : List Ev := (m8 s x).flatMap fun v => [⟨v.1, 0, i, true, 0⟩, ⟨v.2, 0, i, false, 0⟩]
def evB (l : List Alm) (k : Int) (x : Opr) : List Ev := ⟨x.at_, 2, v7 l x.al, false, k⟩ :: if x.kd = 2 ∧ 0 <= v7 l x.al then [⟨x.un, 1, v7 l x.al, false, 0⟩] else []
def O8 (s : List Ser) : Int -> List Alm -> List Ev
 | _, [] => []
 | i, x :: r => evA s i x ++ O8 s (i + 1) r
def V4 (l : List Alm) : Int -> List Opr -> List Ev
 | _, [] => []
 | k, x :: r => evB l k x ++ V4 l (k + 1) r
def Z5 (l : List Alm) (s : List Ser) (a : List Opr) : List Ev := O8 s 0 l ++ V4 l 0 a
def evs (l : List Alm) (s : List Ser) (a : List Opr) : List Ev := n5 (b5w a) (Z5 l s a)
/-! ### states -/
def b2b : Sta := ⟨1, false, 0, false⟩
def c3O (x : Sta) (a : Opr) : Sta × Bool :=
 if a.kd = 2 then ({ x with un := a.un }, true) else if a.kd = 3 then ({ x with un := 0 }, decide (x.un > 0)) else
 if x.bl = 2 then ({ x with bl := 3, ak := true }, true) else if x.bl = 4 then ({ x with bl := 1 }, true) else (x, false)
def a3q (lt : Bool) (x : Sta) (e : Ev) : Sta :=
 if e.k = 1 then (if x.un = e.a then { x with un := 0 } else x) else if e.on = true then { x with ac := true, ak := false, bl := 2 } else { x with ac := false, bl := if lt = true ∧ x.ak = false then 4 else 1 }
structure Sit where
 st : List Sta
 td : List Std
 ig : List Int
 out : List Std
def C6 (l : List Alm) (a : List Opr) (e : Ev) (s : Sit) : Sit :=
 if e.k = 2 then
  if e.al < 0 then { s with ig := s.ig ++ [e.ac] } else
   { s with st := s.st.set e.al.toNat (c3O (s.st.getD e.al.toNat default) (a.getD e.ac.toNat default)).1, ig := if (c3O (s.st.getD e.al.toNat default) (a.getD e.ac.toNat default)).2 = true then s.ig else s.ig ++ [e.ac] }
 else { s with st := s.st.set e.al.toNat (a3q (l.getD e.al.toNat default).lt (s.st.getD e.al.toNat default) e) }
def upA (l : List Alm) : List (List Int) := l.map fun x => G9 l (l.length + 1) x
def V3 (up : List (List Int)) (st : List Sta) (i : Nat) : Int :=
 if (up.getD i []).any (fun k => (st.getD k.toNat default).ac) = true then 6 else if (st.getD i default).un > 0 then 5 else (st.getD i default).bl
def a0D (up : List (List Int)) (at_ : Int) : Nat -> Nat -> Sit -> Sit
 | 0, _, s => s
 | n + 1, i, s => a0D up at_ n (i + 1) (if V3 up s.st i ≠ (s.td.getD i default).st then { s with td := s.td.set i ⟨(s.td.getD i default).al, V3 up s.st i, at_⟩, out := s.out ++ [⟨(s.td.getD i default).al, V3 up s.st i, at_⟩] } else s)
def c3s : List Ev -> Int -> Bool
 | [], _ => false
 | e :: _, t => decide (e.a = t)
def a4s (l : List Alm) (a : List Opr) (to : Int) : List Ev -> Sit -> Sit
 | [], s => s
 | e :: r, s => if to < e.a then s else a4s l a to r (if c3s r e.a = true then C6 l a e s else a0D (upA l) e.a l.length 0 (C6 l a e s))
def a0K (l : List Alm) : Sit := ⟨l.map fun _ => b2b, l.map fun x => ⟨x.k, 1, 0⟩, [], []⟩
def a6L (l : List Alm) (s : List Ser) (a : List Opr) (to : Int) : Sit := a4s l a to (evs l s a) (a0K l)
structure d4b (n m : Nat) (e : Ev) : Prop where
 al : e.al < n
 al0 : e.k ≠ 2 -> 0 <= e.al
 ac : e.k = 2 -> 0 <= e.ac ∧ e.ac < m
end Go.Proofs.YtnlafmigfjlnnaaGreatDoor

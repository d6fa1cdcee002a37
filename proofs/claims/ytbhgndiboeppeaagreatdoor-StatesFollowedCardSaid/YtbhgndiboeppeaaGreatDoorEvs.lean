/- Windows in which an alarm is active are apart. Plain Lean. -/
import Derived.Test.YtbhgndiboeppeaaGreatDoorAct
import Derived.Test.YtbhgndiboeppeaaGreatDoorStb
import Derived.Test.YtbhgndiboeppeaaGreatDoorAlp
set_option linter.all false
set_option maxHeartbeats 4000000
namespace Go.Proofs.YtbhgndiboeppeaaGreatDoor
open Go Go.Ai
theorem a5G {kd lim db : Int} (s : Smp) (h : 0 ≤ db) : ¬((s6 kd lim db s).1 = true ∧ (s6 kd lim db s).2 = true) := by
 unfold s6
 all_goals grind
theorem W1 (on off un nx a : Int) (out : List (Int × Int)) (act : Bool) (t1 t2 : Int) (h1 h2 : Bool) : y8 on off un nx a true false ⟨out, act, t1, t2, h1, h2⟩ = if act = false ∧ max a ((if h1 = false then a else t1) + on) < nx ∧ max a ((if h1 = false then a else t1) + on) < un then ⟨out ++ [(max a ((if h1 = false then a else t1) + on), un)], true, if h1 = false then a else t1, t2, true, false⟩ else ⟨out, act, if h1 = false then a else t1, t2, true, false⟩ := by
 unfold y8
 all_goals grind
theorem V5 (on off un nx a : Int) (out : List (Int × Int)) (act : Bool) (t1 t2 : Int) (h1 h2 : Bool) : y8 on off un nx a false true ⟨out, act, t1, t2, h1, h2⟩ = if act = true ∧ max a ((if h2 = false then a else t2) + off) < nx ∧ max a ((if h2 = false then a else t2) + off) < un then ⟨X9 out (max a ((if h2 = false then a else t2) + off)), false, t1, if h2 = false then a else t2, false, true⟩ else ⟨out, act, t1, if h2 = false then a else t2, false, true⟩ := by
 unfold y8
 all_goals grind
theorem a1T (on off un nx a : Int) (out : List (Int × Int)) (act : Bool) (t1 t2 : Int) (h1 h2 : Bool) : y8 on off un nx a false false ⟨out, act, t1, t2, h1, h2⟩ = ⟨out, act, t1, t2, false, false⟩ := by
 unfold y8
 grind
def Asc : Int → List Smp → Prop
 | _, [] => True
 | lo, s :: r => lo ≤ s.a ∧ U0 s ∧ Asc (s.a + 1) r
theorem b9b (p : Option Smp) (x : Smp) (r : List Smp) (h : serGo p (x :: r) = 0) : q7 x = 0 ∧ (∀ y, p = some y → y.a < x.a) ∧ serGo (some x) r = 0 := by
 rw [serGo.eq_def] at h
 all_goals grind
theorem c0O : ∀ (l : List Smp) (p : Option Smp) (lo : Int), serGo p l = 0 → (∀ y, p = some y → y.a + 1 = lo) → (p = none → lo = 0) → Asc lo l
 | [], _, _, _, _, _ => trivial
 | x :: r, p, lo, h, h1, h2 => by
  obtain ⟨k1, k2, k3⟩ := b9b p x r h
  have h5 := (a3n k1).1
  refine ⟨?_, h5, c0O r (some x) (x.a + 1) k3 (fun y hy => by injection hy with hy; rw [hy]) (fun hn => by cases hn)⟩
  unfold U0 at h5
  cases p with
  | none => have := h2 rfl; omega
  | some y => have := h1 y rfl; have := k2 y rfl; omega
theorem c8Q {l : List Smp} (h : n7 l = 0) : Asc 0 l := c0O l none 0 (a1X h).2 (fun y hy => by cases hy) (fun _ => rfl)
theorem b2H (a : List (Int × Int)) (b : Int × Int) : (a ++ [b]).getD (((a ++ [b]).length : Int) - 1).toNat default = b := by
 have e : (((a ++ [b]).length : Int) - 1).toNat = a.length := by simp
 rw [e, List.getD_eq_getElem?_getD]; simp
theorem b5m (a : List (Int × Int)) (b : Int × Int) (t : Int) : X9 (a ++ [b]) t = a ++ [(b.1, t)] := by
 unfold X9
 rw [b2H]
 have e : (((a ++ [b]).length : Int) - 1).toNat = a.length := by simp
 rw [e]; simp
theorem b4B {kd1 lim1 db1 on1 off1 kd2 lim2 db2 on2 off2 un : Int} (R : Int → N8 → N8 → Prop)
  (step : ∀ (s : Smp) (lo nx : Int) (x1 x2 : N8), lo ≤ s.a → U0 s → s.a < nx → R lo x1 x2 → R nx (y8 on1 off1 un nx s.a (s6 kd1 lim1 db1 s).1 (s6 kd1 lim1 db1 s).2 x1) (y8 on2 off2 un nx s.a (s6 kd2 lim2 db2 s).1 (s6 kd2 lim2 db2 s).2 x2)) :
  ∀ (l : List Smp) (lo : Int) (x1 x2 : N8), Asc lo l → R lo x1 x2 → ∃ T, R T (M0 kd1 lim1 db1 on1 off1 un l x1) (M0 kd2 lim2 db2 on2 off2 un l x2)
 | [], lo, x1, x2, _, h => ⟨lo, h⟩
 | [s], lo, x1, x2, ha, h => by
  have h2 := ha.2.1
  unfold U0 at h2
  exact ⟨_, step s lo 345686400000 x1 x2 ha.1 ha.2.1 (by omega) h⟩
 | s :: s' :: r, lo, x1, x2, ha, h => by
  obtain ⟨h1, h2, h3, h4, h5⟩ := ha
  rw [M0, M0]
  exact b4B R step (s' :: r) s'.a _ _ ⟨by omega, h4, h5⟩ (step s lo s'.a x1 x2 h1 h2 (by omega) h)
def Fcs : Int → List (Int × Int) → Prop
 | _, [] => True
 | lo, w :: r => lo ≤ w.1 ∧ w.1 < w.2 ∧ w.2 ≤ 345686400000 ∧ Fcs (w.2 + 1) r
theorem a3B : ∀ {l : List (Int × Int)} {lo : Int} {w : Int × Int}, Fcs lo l → (∀ x ∈ l, x.2 < w.1) → lo ≤ w.1 → w.1 < w.2 → w.2 ≤ 345686400000 → Fcs lo (l ++ [w])
 | [], lo, w, _, _, h1, h2, h3 => ⟨h1, h2, h3, trivial⟩
 | y :: r, lo, w, h, hx, h1, h2, h3 => ⟨h.1, h.2.1, h.2.2.1, a3B h.2.2.2 (fun x hx2 => hx x (by simp [hx2])) (by have := hx y (by simp); omega) h2 h3⟩
structure ActP (un T : Int) (x : N8) : Prop where
 c : x.act = false → Fcs 0 x.out ∧ ∀ w ∈ x.out, w.2 < T
 o : x.act = true → ∃ init f, x.out = init ++ [(f, un)] ∧ Fcs 0 init ∧ (∀ w ∈ init, w.2 < f) ∧ 0 ≤ f ∧ f < T ∧ f < un
theorem ActP.mono {un T T' : Int} {x : N8} (h : ActP un T x) (hT : T ≤ T') : ActP un T' x :=
 ⟨fun h1 => ⟨(h.c h1).1, fun w hw => by have := (h.c h1).2 w hw; omega⟩, fun h1 => by
  obtain ⟨init, f, k1, k2, k3, k4, k5, k6⟩ := h.o h1
  exact ⟨init, f, k1, k2, k3, k4, by omega, k6⟩⟩
theorem ActP.same {un T : Int} {x : N8} (h : ActP un T x) (t1 t2 : Int) (h1 h2 : Bool) : ActP un T ⟨x.out, x.act, t1, t2, h1, h2⟩ := ⟨h.c, h.o⟩
theorem ActP.open {un T t : Int} {x : N8} (hun : un ≤ 345686400000) (h : ActP un T x) (ha : x.act = false) {T' : Int} (h0 : 0 ≤ t) (h1 : T ≤ t) (h2 : t < T') (h3 : t < un) (t1 t2 : Int) (b1 b2 : Bool) : ActP un T' ⟨x.out ++ [(t, un)], true, t1, t2, b1, b2⟩ :=
 ⟨fun h => (by cases h), fun _ => ⟨x.out, t, rfl, (h.c ha).1, fun w hw => by have := (h.c ha).2 w hw; omega, h0, h2, h3⟩⟩
theorem ActP.close {un T t : Int} {x : N8} (hun : un ≤ 345686400000) (h : ActP un T x) (ha : x.act = true) {T' : Int} (h1 : T ≤ t) (h2 : t < T') (h3 : t < un) (t1 t2 : Int) (b1 b2 : Bool) : ActP un T' ⟨X9 x.out t, false, t1, t2, b1, b2⟩ := by
 obtain ⟨init, f, k1, k2, k3, k4, k5, k6⟩ := h.o ha
 refine ⟨fun _ => ?_, fun h => (by cases h)⟩
 simp only
 rw [k1, b5m]
 refine ⟨a3B k2 k3 k4 (by simp only; omega) (by simp only; omega), fun w hw => ?_⟩
 all_goals grind
theorem ActP.fcs {un T : Int} {x : N8} (hun : un ≤ 345686400000) (h : ActP un T x) : Fcs 0 x.out := by
 cases ha : x.act with
 | false => exact (h.c ha).1
 | true =>
  obtain ⟨init, f, k1, k2, k3, k4, k5, k6⟩ := h.o ha
  rw [k1]
  exact a3B k2 k3 k4 k6 hun
theorem b1Z (kd lim db : Int) (s : Smp) (h : 0 ≤ db) : (s6 kd lim db s).1 = true ∧ (s6 kd lim db s).2 = false ∨ (s6 kd lim db s).1 = false ∧ (s6 kd lim db s).2 = true ∨ (s6 kd lim db s).1 = false ∧ (s6 kd lim db s).2 = false := by
 have := a5G (kd := kd) (lim := lim) (db := db) s h
 grind
theorem ActP.step {un lo nx a on off : Int} {X Y : Bool} {x : N8} (hun : un ≤ 345686400000) (h0 : 0 ≤ a) (hlo : lo ≤ a) (hnx : a < nx) (hXY : X = true ∧ Y = false ∨ X = false ∧ Y = true ∨ X = false ∧ Y = false) (h : ActP un lo x) : ActP un nx (y8 on off un nx a X Y x) := by
 obtain ⟨out, act, t1, t2, h1, h2⟩ := x
 rcases hXY with ⟨rfl, rfl⟩ | ⟨rfl, rfl⟩ | ⟨rfl, rfl⟩
 ·rw [W1]
  generalize (if h1 = false then a else t1) = T1
  by_cases c : act = false ∧ max a (T1 + on) < nx ∧ max a (T1 + on) < un
  ·rw [if_pos c]
   exact h.open hun c.1 (by omega) (by omega) c.2.1 c.2.2 _ _ _ _
  ·rw [if_neg c]
   exact (h.mono (by omega)).same _ _ _ _
 ·rw [V5]
  generalize (if h2 = false then a else t2) = T2
  by_cases c : act = true ∧ max a (T2 + off) < nx ∧ max a (T2 + off) < un
  ·rw [if_pos c]
   exact h.close hun c.1 (by omega) c.2.1 c.2.2 _ _ _ _
  ·rw [if_neg c]
   exact (h.mono (by omega)).same _ _ _ _
 ·rw [a1T]
  exact (h.mono (by omega)).same _ _ _ _
theorem c7X (un : Int) : ActP un 0 ⟨[], false, 0, 0, false, false⟩ := ⟨fun _ => ⟨trivial, by simp⟩, fun h => (by cases h)⟩
theorem a9o {kd lim db on off un : Int} {l : List Smp} (hun : un ≤ 345686400000) (hdb : 0 ≤ db) (h : Asc 0 l) : Fcs 0 (a9P kd lim db on off un l) := by
 obtain ⟨T, h1⟩ := b4B (kd1 := kd) (lim1 := lim) (db1 := db) (on1 := on) (off1 := off) (kd2 := kd) (lim2 := lim) (db2 := db) (on2 := on) (off2 := off) (un := un) (fun T x _ => ActP un T x)
  (fun s lo nx x1 x2 h1 h2 h3 h4 => ActP.step hun h2.1 h1 h3 (b1Z kd lim db s hdb) h4) l 0 _ ⟨[], false, 0, 0, false, false⟩ h (c7X un)
 exact h1.fcs hun
structure Ev where
 a : Int
 k : Int
 al : Int
 on : Bool
 ac : Int
instance : Inhabited Ev := ⟨⟨0, 0, 0, false, 0⟩⟩
def evS (e : Ev) : List Cel := [.g (.int .i64 e.a), .g (.int .i64 e.k), .g (.int .i64 e.al), .g (.bool e.on), .g (.int .i64 e.ac)]
theorem B2 (e : Ev) : evS e = [.g (.int .i64 e.a), .g (.int .i64 e.k), .g (.int .i64 e.al), .g (.bool e.on), .g (.int .i64 e.ac)] := (rfl)
attribute [go_sem] B2
structure Sta where
 bl : Int
 ac : Bool
 un : Int
 ak : Bool
instance : Inhabited Sta := ⟨⟨0, false, 0, false⟩⟩
def b3o (e : Sta) : List Cel := [.g (.int .i64 e.bl), .g (.bool e.ac), .g (.int .i64 e.un), .g (.bool e.ak)]
theorem H9 (e : Sta) : b3o e = [.g (.int .i64 e.bl), .g (.bool e.ac), .g (.int .i64 e.un), .g (.bool e.ak)] := (rfl)
attribute [go_sem] H9
structure Std where
 al : ByteArray
 st : Int
 si : Int
instance : Inhabited Std := ⟨⟨emp, 0, 0⟩⟩
def u7 (e : Std) : List Cel := [.g (.string e.al), .g (.int .i64 e.st), .g (.int .i64 e.si)]
theorem F4 (e : Std) : u7 e = [.g (.string e.al), .g (.int .i64 e.st), .g (.int .i64 e.si)] := (rfl)
attribute [go_sem] F4
/-! ### the order of events -/
def b4C (a : List Opr) (x y : Ev) : Int :=
 if C2 [sd y.a x.a, sd y.k x.k] ≠ 0 ∨ x.k ≠ 2 then C2 [C2 [sd y.a x.a, sd y.k x.k], sd y.al x.al] else a2t (a.getD x.ac.toNat default) (a.getD y.ac.toNat default)
def ltO (x y : Opr) : Prop := ltS x.b y.b ∨ (x.b = y.b ∧ x.no < y.no)
theorem c3s (x y : Opr) : a2t x y < 0 ↔ ltO x y := by
 unfold a2t d4j ltO
 rcases I0 x.b y.b with ⟨h1, h2⟩ | ⟨h1, h2⟩ | ⟨h1, h2⟩
 ·rw [if_neg (by omega)]
  have h3 : ¬ltS x.b y.b := by rw [h2]; exact r8 _
  all_goals grind
 ·grind
 ·rw [if_pos (by omega), h1]
  refine ⟨fun h => by omega, ?_⟩
  rintro (h | h)
  ·exact absurd h2 (F9 h)
  ·rw [h.1] at h2; exact absurd h2 (r8 _)
theorem c4T (x : Opr) : ¬ltO x x := by
 rintro (h | h)
 ·exact r8 _ h
 ·omega
theorem c0j {x y z : Opr} (h1 : ltO x y) (h2 : ltO y z) : ltO x z := by
 rcases h1 with h1 | ⟨h1, h3⟩ <;> rcases h2 with h2 | ⟨h2, h4⟩
 ·exact .inl (H7 h1 h2)
 ·exact .inl (h2 ▸ h1)
 ·exact .inl (h1 ▸ h2)
 ·exact .inr ⟨h1.trans h2, by omega⟩
theorem b9O {x z : Opr} (y : Opr) (h : ltO x z) : ltO x y ∨ ltO y z := by
 rcases b3K x.b y.b with h1 | h1 | h1
 ·exact .inl (.inl h1)
 ·rcases h with h | ⟨h, h2⟩
  ·exact .inr (.inl (h1 ▸ h))
  ·by_cases h3 : x.no < y.no
   ·exact .inl (.inr ⟨h1, h3⟩)
   ·exact .inr (.inr ⟨h1 ▸ h, by omega⟩)
 ·rcases h with h | ⟨h, h2⟩
  ·exact .inr (.inl (H7 h1 h))
  ·exact .inr (.inl (h ▸ h1))
def ltE (a : List Opr) (x y : Ev) : Prop := x.a < y.a ∨ (x.a = y.a ∧ (x.k < y.k ∨ (x.k = y.k ∧ ((x.k ≠ 2 ∧ x.al < y.al) ∨ (x.k = 2 ∧ ltO (a.getD x.ac.toNat default) (a.getD y.ac.toNat default))))))
theorem c2s (x y : Int) : C2 [x, y] = if x ≠ 0 then x else y := by
 unfold C2 C2 C2
 all_goals grind
theorem O9 (a : List Opr) (x y : Ev) : b4C a x y < 0 ↔ ltE a x y := by
 unfold b4C ltE
 rw [c2s, c2s]
 rcases O5 y.a x.a with ⟨h1, h2⟩ | ⟨h1, h2⟩ | ⟨h1, h2⟩
 ·grind
 ·grind
 ·rw [h2]
  simp only [ne_eq, not_true_eq_false, if_false]
  rcases O5 y.k x.k with ⟨h3, h4⟩ | ⟨h3, h4⟩ | ⟨h3, h4⟩
  ·grind
  ·grind
  ·rw [h4]
   simp only [not_true_eq_false, false_or, if_false]
   by_cases h5 : x.k = 2
   ·rw [if_neg (by simpa using h5), c3s]
    grind
   ·rw [if_pos h5]
    rcases O5 y.al x.al with ⟨h6, h7⟩ | ⟨h6, h7⟩ | ⟨h6, h7⟩ <;> rw [h7]
    ·grind
    ·all_goals grind
    ·all_goals grind
theorem c8Y {a : List Opr} {x z : Ev} (y : Ev) (h : ltE a x z) : ltE a x y ∨ ltE a y z := by
 unfold ltE at *
 rcases (show x.a < y.a ∨ y.a < x.a ∨ x.a = y.a by omega) with h1 | h1 | h1
 ·exact .inl (.inl h1)
 ·grind
 ·rcases h with h | ⟨h, h'⟩
  ·exact .inr (.inl (by omega))
  ·rcases (show x.k < y.k ∨ y.k < x.k ∨ x.k = y.k by omega) with h2 | h2 | h2
   ·grind
   ·grind
   ·rcases h' with h' | ⟨h3, h' | ⟨h4, h'⟩⟩
    ·grind
    ·all_goals grind
    ·rcases b9O (a.getD y.ac.toNat default) h' with h5 | h5
     ·grind
     ·grind
theorem c7c {a : List Opr} {x y z : Ev} (h1 : ltE a x y) (h2 : ltE a y z) : ltE a x z := by
 unfold ltE at *
 rcases h1 with h1 | ⟨h1, h3⟩ <;> rcases h2 with h2 | ⟨h2, h4⟩
 ·exact .inl (by omega)
 ·exact .inl (by omega)
 ·exact .inl (by omega)
 ·refine .inr ⟨by omega, ?_⟩
  rcases h3 with h3 | ⟨h3, h5⟩ <;> rcases h4 with h4 | ⟨h4, h6⟩
  ·exact .inl (by omega)
  ·exact .inl (by omega)
  ·exact .inl (by omega)
  ·refine .inr ⟨by omega, ?_⟩
   rcases h5 with h5 | ⟨h5, h7⟩ <;> rcases h6 with h6 | ⟨h6, h8⟩
   ·grind
   ·grind
   ·grind
   ·exact .inr ⟨h5, c0j h7 h8⟩
theorem c5I {a : List Opr} (x : Ev) : ¬ltE a x x := by
 rintro (h | ⟨_, h | ⟨_, h | h⟩⟩)
 ·omega
 ·omega
 ·omega
 ·exact c4T _ h.2
theorem evSwo (a : List Opr) : Swo (fun _ => True) (b4C a) where
 irr x _ h := c5I x ((O9 a x x).1 h)
 tr x y z _ _ _ h1 h2 := (O9 a x z).2 (c7c ((O9 a x y).1 h1) ((O9 a y z).1 h2))
 ntr x y z _ _ _ h1 h2 h3 := by
  rcases c8Y y ((O9 a x z).1 h3) with h | h
  ·exact h1 ((O9 a x y).2 h)
  ·exact h2 ((O9 a y z).2 h)
/-! ### all events -/
def a5D (s : List Ser) (tag : ByteArray) : List Smp := if 0 ≤ D0 (fun x : Ser => decide (x.t = tag)) 0 s then (s.getD (D0 (fun x : Ser => decide (x.t = tag)) 0 s).toNat default).l else []
def v7 (s : List Ser) (x : Alm) : List (Int × Int) := a9P x.kd x.lim x.db x.on x.off 345686400000 (a5D s x.t)
def evA (s : List Ser) (i : Int) (x : Alm) : List Ev := (v7 s x).flatMap fun v => [⟨v.1, 0, i, true, 0⟩, ⟨v.2, 0, i, false, 0⟩]
def evB (l : List Alm) (k : Int) (x : Opr) : List Ev := ⟨x.at_, 2, q8 l x.al, false, k⟩ :: if x.kd = 2 ∧ 0 ≤ q8 l x.al then [⟨x.un, 1, q8 l x.al, false, 0⟩] else []
def P9 (s : List Ser) : Int → List Alm → List Ev
 | _, [] => []
 | i, x :: r => evA s i x ++ P9 s (i + 1) r
def V8 (l : List Alm) : Int → List Opr → List Ev
 | _, [] => []
 | k, x :: r => evB l k x ++ V8 l (k + 1) r
def Z9 (l : List Alm) (s : List Ser) (a : List Opr) : List Ev := P9 s 0 l ++ V8 l 0 a
def evs (l : List Alm) (s : List Ser) (a : List Opr) : List Ev := l7 (b4C a) (Z9 l s a)
/-! ### states -/
def b1a : Sta := ⟨1, false, 0, false⟩
def c1l (x : Sta) (a : Opr) : Sta × Bool :=
 if a.kd = 2 then ({ x with un := a.un }, true) else if a.kd = 3 then ({ x with un := 0 }, decide (x.un > 0)) else
 if x.bl = 2 then ({ x with bl := 3, ak := true }, true) else if x.bl = 4 then ({ x with bl := 1 }, true) else (x, false)
def a3b (lt : Bool) (x : Sta) (e : Ev) : Sta :=
 if e.k = 1 then (if x.un = e.a then { x with un := 0 } else x) else if e.on = true then { x with ac := true, ak := false, bl := 2 } else { x with ac := false, bl := if lt = true ∧ x.ak = false then 4 else 1 }
structure Sit where
 st : List Sta
 td : List Std
 ig : List Int
 out : List Std
def C4 (l : List Alm) (a : List Opr) (e : Ev) (s : Sit) : Sit :=
 if e.k = 2 then
  if e.al < 0 then { s with ig := s.ig ++ [e.ac] } else
   { s with st := s.st.set e.al.toNat (c1l (s.st.getD e.al.toNat default) (a.getD e.ac.toNat default)).1, ig := if (c1l (s.st.getD e.al.toNat default) (a.getD e.ac.toNat default)).2 = true then s.ig else s.ig ++ [e.ac] }
 else { s with st := s.st.set e.al.toNat (a3b (l.getD e.al.toNat default).lt (s.st.getD e.al.toNat default) e) }
def upA (l : List Alm) : List (List Int) := l.map fun x => G0 l (l.length + 1) x
def S5 (up : List (List Int)) (st : List Sta) (i : Nat) : Int :=
 if (up.getD i []).any (fun k => (st.getD k.toNat default).ac) = true then 6 else if (st.getD i default).un > 0 then 5 else (st.getD i default).bl
def U3 (up : List (List Int)) (at_ : Int) : Nat → Nat → Sit → Sit
 | 0, _, s => s
 | n + 1, i, s => U3 up at_ n (i + 1) (if S5 up s.st i ≠ (s.td.getD i default).st then { s with td := s.td.set i ⟨(s.td.getD i default).al, S5 up s.st i, at_⟩, out := s.out ++ [⟨(s.td.getD i default).al, S5 up s.st i, at_⟩] } else s)
def b9f : List Ev → Int → Bool
 | [], _ => false
 | e :: _, t => decide (e.a = t)
def U9 (l : List Alm) (a : List Opr) (to : Int) : List Ev → Sit → Sit
 | [], s => s
 | e :: r, s => if to < e.a then s else U9 l a to r (if b9f r e.a = true then C4 l a e s else U3 (upA l) e.a l.length 0 (C4 l a e s))
def O6 (l : List Alm) : Sit := ⟨l.map fun _ => b1a, l.map fun x => ⟨x.k, 1, 0⟩, [], []⟩
def J7 (l : List Alm) (s : List Ser) (a : List Opr) (to : Int) : Sit := U9 l a to (evs l s a) (O6 l)
structure d3K (n m : Nat) (e : Ev) : Prop where
 al : e.al < n
 al0 : e.k ≠ 2 → 0 ≤ e.al
 ac : e.k = 2 → 0 ≤ e.ac ∧ e.ac < m
end Go.Proofs.YtbhgndiboeppeaaGreatDoor

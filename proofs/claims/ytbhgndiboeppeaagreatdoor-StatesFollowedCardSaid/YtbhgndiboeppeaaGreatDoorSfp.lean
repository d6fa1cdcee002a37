/- The reference's answers out of its log, by contract. -/
import Derived.Test.YtbhgndiboeppeaaGreatDoorLgo
import Derived.Test.YtbhgndiboeppeaaGreatDoorRlt
import Derived.Test.YtbhgndiboeppeaaGreatDoorSlq
import Derived.Test.YtbhgndiboeppeaaGreatDoorLog
import Derived.Test.YtbhgndiboeppeaaGreatDoorSns
import Derived.Test.YtbhgndiboeppeaaGreatDoorSrk
set_option linter.all false
set_option maxHeartbeats 4000000
set_option maxRecDepth 100000
namespace Go.Proofs.YtbhgndiboeppeaaGreatDoor
open Go Go.Ai
structure RlOk (l : List Alm) (s : List Ser) (a : List Opr) : Prop where
 al : J8 l
 se : a3j s
 ss : s.length ≤ 1000000
 aa : a.length ≤ 1000000
 T : (G4 l s a).length + 1 ≤ 1000000
 W : ∀ k, (wnK s k l).length ≤ 1000000
 L : ((W4 l s a).length + 1) * l.length ≤ 1000000
theorem RlOk.log {l : List Alm} {s : List Ser} {a : List Opr} (h : RlOk l s a) (to : Int) : FCM Tryz.prog 63 ⟨[], []⟩ [r6 false l, B3 false s, u9 false a, iv to] (fun H r => H = ⟨[], [(500023, l9 (rlA l s a to).out), (600023, n9 (a0q (rlA l s a to).r.ig))]⟩ ∧ r = .tu [.one (.ow 500023 0), .one (.ow 600023 0)]) :=
 b1W h.al h.se h.ss (by have := h.al.len; omega) h.aa h.T h.W h.L
theorem a8n (l : List Alm) (s : List Ser) (a : List Opr) (to : Int) : ∀ (E : List Rev) (g : Rlg), (rnR l s a to E g).out.length ≤ g.out.length + l.length * E.length
 | [], g => by simp [rnR, a3V]
 | e :: r, g => by
  rw [rnR, a3V, List.length_cons, Nat.mul_add, Nat.mul_one]
  have h1 : (apR l a e g).out = g.out := rfl
  split
  ·omega
  ·refine Nat.le_trans (a8n l s a to r _) ?_
   split
   ·rw [h1]; omega
   ·have := (b2Z l s e.a (apR l a e g)).1
    rw [h1] at this; omega
theorem RlOk.out {l : List Alm} {s : List Ser} {a : List Opr} (h : RlOk l s a) (to : Int) : (rlA l s a to).out.length ≤ 1000000 := by
 have h1 := a8n l s a to (W4 l s a) (rl0 l)
 have h2 := h.L
 rw [Nat.add_mul, Nat.mul_comm] at h2
 unfold rlA
 simp only [rl0, List.length_nil] at h1 ⊢
 omega
theorem RlOk.ig {l : List Alm} {s : List Ser} {a : List Opr} (h : RlOk l s a) (to : Int) : (rlA l s a to).r.ig.length ≤ 1000000 := by
 have h1 := a6h l s a to (W4 l s a) (rl0 l)
 have h2 := h.T
 have h3 : (W4 l s a).length = (G4 l s a).length := f0 _ _
 unfold rlA
 simp only [rl0, List.length_nil] at h1 ⊢
 omega
/-! ### the state of an alarm -/
def d4P (key : ByteArray) (o : List Std) (i : Int) (c : Std) : AS := ⟨m9 [(3, sv key), (10, .one (.bx 10 0)), (11, .one (.bx 11 0)), (26, .one (.sl true 3 (o.map u7))), (27, iv o.length), (28, iv i)], f9 [(10, [.g (.string (ByteArray.mk #[])), .g (.int .i64 0), .g (.int .i64 0)]), (11, u7 c)], f9 []⟩
def a8U (key : ByteArray) (o : List Std) : Std := P6 key o ⟨key, 1, 0⟩
theorem a2z (key : ByteArray) (o : List Std) (z d : Std) : P6 key (o ++ [z]) d = if z.al = key then z else P6 key o d := by
 rw [a1n]; rfl
theorem b3C {l : List Alm} {s : List Ser} {a : List Opr} (h : RlOk l s a) (key : ByteArray) (to : Int) :
  FC Tryz.prog 23 none [r6 false l, B3 false s, u9 false a, sv key, iv to] (fun _ r => r = .ag (u7 (a8U key (rlA l s a to).out))) := by
 refine fcE Tryz.func23 (aM [10] [] [[0,1,2,3,4,10]] ++ aM [10,11] [] [[0,1,2,3,4,10,11]] ++ [⟨(kP [3,10,11,12] [10,11] []),[],[],[],[(23,⟨[],[],[],[500023,600023],[]⟩)]⟩] ++ aM [10,11] [] [[3,10,11,26,27,28],[3,10,11,26,27,28,29]] ++ aM [10,11,15] [] [[3,10,11,15,26,27,28],[3,10,11,15,26,27,28,35]] ++ aM [10,11] [] [[3,10,11,26,27,28],[3,10,11,26,27,28]] ++ aM [10] [] [[10]]) ?_
 have hlg := h.log to
 have ho := h.out to
 generalize (rlA l s a to).out = o at *
 refine qv ?_
 refine ⟨rfl, f7 hlg ⟨rfl, rfl⟩ ?_⟩
 refine qv ?_
 refine n8 (d4P key o) (fun i c => 0 ≤ i ∧ i ≤ o.length ∧ c = P6 key (o.take i.toNat) ⟨key, 1, 0⟩) (fun i _ => (o.length - i).toNat) 0 ⟨key, 1, 0⟩ ⟨by omega, by omega, by simp [P6]⟩ rfl ?_
 rintro i c ⟨g1, g2, g3⟩
 unfold d4P
 by_cases hi : i < o.length
 ·have em := e8 u7 o i [] g1 hi
  have hsn := C7 o i g1 hi
  by_cases hc : (o.getD i.toNat default).al = key
  ·refine qv ?_
   refine ⟨i + 1, o.getD i.toNat default, rfl, ⟨by omega, by omega, ?_⟩, by omega⟩
   rw [hsn, a2z, if_pos hc]
  ·refine qv ?_
   refine ⟨i + 1, c, rfl, ⟨by omega, by omega, ?_⟩, by omega⟩
   rw [hsn, a2z, if_neg hc]; exact g3
 ·rw [List.take_of_length_le (by omega)] at g3
  subst g3
  refine qv ?_
  rfl
/-! ### the standing alarms -/
def c5C (l : List Alm) (x y : Std) : Int := C2 [sd (T4 l y.al) (T4 l x.al), sd y.si x.si]
def ltY (l : List Alm) (x y : Std) : Prop := T4 l x.al < T4 l y.al ∨ (T4 l x.al = T4 l y.al ∧ x.si < y.si)
theorem c4Y (x y : Int) : C2 [x, y] = if x ≠ 0 then x else y := by
 unfold C2 C2 C2
 (repeat' split) <;> omega
theorem Q2 (l : List Alm) (x y : Std) : c5C l x y < 0 ↔ ltY l x y := by
 unfold c5C ltY
 rw [c4Y]
 obtain ⟨a1, a2⟩ := b1i (T4 l x.al) (T4 l y.al)
 obtain ⟨b1, b2⟩ := b1i x.si y.si
 by_cases ha : T4 l x.al = T4 l y.al
 ·rw [if_neg (fun h => h (a2.2 ha)), b1]
  exact ⟨fun h => .inr ⟨ha, h⟩, fun h => by omega⟩
 ·rw [if_pos (fun h => ha (a2.1 h)), a1]
  exact ⟨fun h => .inl h, fun h => by omega⟩
theorem d5r (l : List Alm) (p : Std → Prop) : Swo p (c5C l) where
 irr x _ h := by have := (Q2 l x x).1 h; unfold ltY at this; omega
 tr x y z _ _ _ h1 h2 := (Q2 l x z).2 (by
  have h1 := (Q2 l x y).1 h1
  have h2 := (Q2 l y z).1 h2
  unfold ltY at *; omega)
 ntr x y z _ _ _ h1 h2 h3 := by
  have h3 := (Q2 l x z).1 h3
  have h1 : ¬ltY l x y := fun h => h1 ((Q2 l x y).2 h)
  have h2 : ¬ltY l y z := fun h => h2 ((Q2 l y z).2 h)
  unfold ltY at *; omega
theorem b8f (l : List Alm) (hl : l.length ≤ 1000000) (x y : Std) (hx : 0 ≤ q8 l x.al) (hy : 0 ≤ q8 l y.al) : FC Tryz.prog 66 none [.ag (u7 x), .ag (u7 y), .one (.ep [.sl false 10 (l.map z7)])] (fun _ r => r = iv (c5C l x y)) := by
 refine fcE Tryz.func66 [aN [2,3,4] [3,4] [],aN [5] [] []] ?_
 have h1 := H5 x.al l hl
 have h2 := H5 y.al l hl
 have r1 := D5 l x.al
 have r2 := D5 l y.al
 have e1 := e8 z7 l (q8 l x.al) [] hx (by omega)
 have e2 := e8 z7 l (q8 l y.al) [] hy (by omega)
 have ho := a1v [sd (T4 l y.al) (T4 l x.al), sd y.si x.si] (by simp)
 rw [show C2 [sd (T4 l y.al) (T4 l x.al), sd y.si x.si] = c5C l x y from rfl] at ho
 unfold T4 at ho
 refine qc h1 ?_
 refine qc h2 ?_
 refine qc (r9 _ _) ?_
 refine qc (r9 _ _) ?_
 refine qc ho ?_
 exact qt
def ryL (l : List Alm) (o : List Std) : List Std := (l.map fun x => a8U x.k o).filter a4u
def c8i (l : List Alm) (o : List Std) : List Std := l7 (c5C l) (ryL l o)
theorem c5k (key : ByteArray) (o : List Std) : (a8U key o).al = key := by
 unfold a8U
 suffices h : ∀ (o : List Std) (d : Std), d.al = key → (P6 key o d).al = key from h o _ rfl
 intro o
 induction o with
 | nil => intro d h; exact h
 | cons z r ih =>
  intro d h
  rw [P6]
  refine ih _ ?_
  split
  ·assumption
  ·exact h
def ryt (s : List Ser) (a : List Opr) (l : List Alm) (to : Int) (i : Int) (out : List Std) : AS := ⟨m9 [(1, B3 false s), (2, u9 false a), (3, iv to), (4, .one (.bx 4 0)), (9, .one (.ow 9 0)), (13, r6 false l), (14, iv l.length), (15, iv i)], f9 [(4, [.sl false 10 (l.map z7)])], f9 [(9, l9 out)]⟩
theorem c2F {l : List Alm} {s : List Ser} {a : List Opr} (h : RlOk l s a) (h12 : l.length ≤ 12) (to : Int) :
  FC Tryz.prog 24 none [r6 false l, B3 false s, u9 false a, iv to] (fun _ r => r = .one (.sl true 3 ((c8i l (rlA l s a to).out).map u7))) := by
 refine fcE Tryz.func24 (aM [4] [] [[1,2,3,4]] ++ [⟨(kP [1,2,3,4,9] [4] []),[(9,43,3)],[],[],[]⟩] ++ aM [4] [9] [[1,2,3,4,9,13,14,15],[1,2,3,4,9,13,14,15,16]] ++ aM [4,11] [9] [[1,2,3,4,9,11,13,14,15]] ++ aM [4,12] [9] [[1,2,3,4,9,12,13,14,15],[1,2,3,4,9,12,13,14,15,28]] ++ aM [4] [9] [[1,2,3,4,9,13,14,15],[1,2,3,4,9,13,14,15]] ++ [⟨(kP [9] [] []),[],[],[],[(36,⟨[4],[9],[4],[9],[9]⟩)]⟩] ++ aL [[8]]) ?_
 refine qv ?_
 have hst := fun key => b3C h key to
 generalize (rlA l s a to).out = o at *
 refine n8 (ryt s a l to) (fun i out => 0 ≤ i ∧ i ≤ l.length ∧ out = ryL (l.take i.toNat) o) (fun i _ => (l.length - i).toNat) 0 [] ⟨by omega, by omega, by simp [ryL]⟩ rfl ?_
 rintro i out ⟨g1, g2, g3⟩
 unfold ryt
 have hol : out.length ≤ l.length := by
  rw [g3]; unfold ryL; exact Nat.le_trans (List.length_filter_le _ _) (by rw [List.length_map, List.length_take]; omega)
 by_cases hi : i < l.length
 ·have em := e8 z7 l i [] g1 hi
  have hx := hst (l.getD i.toNat default).k
  have hin := J5 (a8U (l.getD i.toNat default).k o).st 2 4
  have hsn := C7 l i g1 hi
  have hry : ryL (l.take (i + 1).toNat) o = out ++ if a4u (a8U (l.getD i.toNat default).k o) = true then [a8U (l.getD i.toNat default).k o] else [] := by
   rw [hsn, g3]; unfold ryL
   rw [List.map_append, List.filter_append, List.map_cons, List.map_nil, List.filter_cons]
   split <;> rfl
  have hl1 : a4u (a8U (l.getD i.toNat default).k o) = decide (2 ≤ (a8U (l.getD i.toNat default).k o).st ∧ (a8U (l.getD i.toNat default).k o).st ≤ 4) := rfl
  generalize a8U (l.getD i.toNat default).k o = z at *
  refine qc hx ?_
  refine qv ?_
  by_cases hc : 2 ≤ z.st ∧ z.st ≤ 4
  ·rw [decide_eq_true hc] at hin hl1
   refine n6 hin (.inl rfl) ?_
   refine qv ?_
   rw [if_pos hl1] at hry
   exact ⟨i + 1, out ++ [z], by simp only [l9, List.map_append, List.map_cons, List.map_nil, F4], ⟨by omega, by omega, hry.symm⟩, by omega⟩
  ·rw [decide_eq_false hc] at hin hl1
   refine n6 hin (.inl rfl) ?_
   refine qv ?_
   rw [if_neg (by rw [hl1]; simp), List.append_nil] at hry
   exact ⟨i + 1, out, rfl, ⟨by omega, by omega, hry.symm⟩, by omega⟩
 ·rw [List.take_of_length_le (by omega)] at g3
  have hso := b8C 66 (d5r l (fun z => 0 ≤ q8 l z.al)) 10 (l.map z7) (fun x y hx hy => b8f l (by omega) x y hx hy) out (fun z hz => by
   rw [g3] at hz
   unfold ryL at hz
   obtain ⟨x, hx, rfl⟩ := List.mem_map.1 (List.mem_filter.1 hz).1
   obtain ⟨j, hj, rfl⟩ := M7 hx
   rw [c5k, a1i h.al.up hj]; omega) (by omega)
  rw [g3, show l7 (c5C l) (ryL l o) = c8i l o from rfl] at hso
  rw [g3]
  refine qv ?_
  refine ⟨rfl, y6 ⟨[(4, [.sl false 10 (l.map z7)])], [(9, l9 (c8i l o))]⟩ (.tu []) (Go.Ai.swp 4 1000001) (Go.Ai.swp 9 1000000) (Go.Ai.s8 4 1000001) (Go.Ai.s8 9 1000000) hso (by simp) rfl rfl rfl rfl rfl ⟨rfl, rfl⟩ ?_⟩
  exact qt
/-! ### what is ignored -/
theorem c3K {l : List Alm} {s : List Ser} {a : List Opr} (h : RlOk l s a) :
  FC Tryz.prog 25 none [r6 false l, B3 false s, u9 false a] (fun _ r => r = .one (.sl true 1 ((a0q (rlA l s a 345686400000).r.ig).map U5))) := by
 refine fcE Tryz.func25 (aL [[0,1,2]] ++ [⟨(kP [8] [] []),[],[],[],[(13,⟨[],[],[],[500023,600023],[]⟩)]⟩] ++ aL [[6]]) ?_
 have hlg := h.log 345686400000
 generalize rlA l s a 345686400000 = T at *
 refine qv ?_
 refine ⟨rfl, f7 hlg ⟨rfl, rfl⟩ ?_⟩
 exact qt
/-! ### the changes within a window -/
theorem b9v (f t : Int) (x : Std) : FC Tryz.prog 68 none [.ag (u7 x), .one (.ep [.g (.int .i64 f), .g (.int .i64 t)])] (fun _ r => r = bv (decide (x.si < f))) := by
 refine fcE Tryz.func68 [aN [1,2] [2] [],aN [3] [] []] ?_
 exact qt
theorem c2S {l : List Alm} {s : List Ser} {a : List Opr} (h : RlOk l s a) (f t : Int) (ht : 0 ≤ t ∧ t ≤ 345686400000) :
  FC Tryz.prog 26 none [r6 false l, B3 false s, u9 false a, .ag [.g (.int .i64 f), .g (.int .i64 t)]] (fun _ r => r = .one (.sl true 3 (((rlA l s a (t - 1)).out.filter fun x => !decide (x.si < f)).map u7))) := by
 refine fcE Tryz.func26 [aN [0,1,2,7] [7] [500023],⟨(kP [7,9] [7] [500023]),[],[],[],[(18,⟨[],[],[],[500023,600023],[]⟩)]⟩,⟨(kP [7,8] [7] []),[],[],[],[(23,⟨[7],[500023],[7],[500023],[]⟩)]⟩] ?_
 have hlg := h.log (t - 1)
 have ho := h.out (t - 1)
 generalize rlA l s a (t - 1) = T at *
 have hdl := b7o 68 f t (fun x => decide (x.si < f)) T.out ho (fun x _ => b9v f t x)
 refine qv ?_
 refine ⟨rfl, f7 hlg ⟨rfl, rfl⟩ ?_⟩
 refine qv ?_
 refine ⟨rfl, N4 ⟨[(7, [.g (.int .i64 f), .g (.int .i64 t)])], [(500023, l9 (T.out.filter fun x => !decide (x.si < f)))]⟩ (.one (.ow 500023 0)) (Go.Ai.swp 7 1000001) (Go.Ai.swp 500023 1000000) (Go.Ai.s8 7 1000001) (Go.Ai.s8 500023 1000000) hdl (by simp) rfl rfl rfl rfl ⟨rfl, rfl⟩ ?_⟩
 exact qt
theorem a8A {l : List Alm} {s : List Ser} (hA : J8 l) (hs : a3j s) : a1u s l := fun x hx => by
 obtain ⟨i, hi, rfl⟩ := M7 hx
 obtain ⟨kk, hff⟩ := a5M (hA.flt i hi)
 obtain ⟨f1, f2, f3, f4, f5, f6⟩ := a5N hff
 unfold v7
 refine a9o (by omega) f3.1 ?_
 unfold a5D
 split
 ·rename_i h0
  have hr := O4 (fun y : Ser => decide (y.t = (l.getD i default).t)) s 0
  exact c8Q (hs.ser _ (by omega))
 ·trivial
section
variable {l : List Alm} {s : List Ser} {a : List Opr}
theorem b0y (h : b1d a) : ∀ x ∈ a, (x.kd = 2 → x.at_ < x.un) ∧ (1 ≤ x.kd ∧ x.kd ≤ 3) ∧ (0 ≤ x.at_ ∧ x.at_ < 345686400000) := fun x hx => by
 obtain ⟨i, hi, rfl⟩ := M7 hx
 obtain ⟨h1, h2, h3, h4, h5, h6, h7⟩ := c0F (h.flt i hi)
 exact ⟨fun e => (h6 e).1, h4, h3⟩
theorem AllOk.rl (h : AllOk l s a) {to : Int} (ht : to ≤ 345686399999) : (rlA l s a to).out = (J7 l s a to).out ∧ (rlA l s a to).r.ig = (J7 l s a to).ig :=
 c8n h.al (a8A h.al h.se) (b0y h.ac) ht
theorem c1s (h : AllOk l s a) {e : Rev} (he : e ∈ W4 l s a) : e.a ≤ 345686399999 := by
 have h1 : e ∈ G4 l s a := ssort_mem.1 he
 unfold G4 at h1
 rcases List.mem_append.1 h1 with h1 | h1
 ·have hw := a8A h.al h.se
  suffices H : ∀ (q : List Alm) (j : Nat), (∀ x ∈ q, Fcs 0 (v7 s x)) → e ∈ W5 s j q → e.a ≤ 345686399999 from H l 0 hw h1
  intro q
  induction q with
  | nil => intro j _ h; simp [W5] at h
  | cons x q ih =>
   intro j hq hm
   rw [W5, List.mem_append] at hm
   rcases hm with hm | hm
   ·unfold rvA at hm
    obtain ⟨v, hv, hm⟩ := List.mem_flatMap.1 hm
    have hf := (hq x (by simp)).lt v hv
    unfold rvW at hm
    rcases List.mem_cons.1 hm with rfl | hm
    ·show v.1 ≤ _; omega
    ·split at hm
     ·simp only [List.mem_singleton] at hm; subst hm; show v.2 ≤ _; omega
     ·simp at hm
   ·exact ih (j + 1) (fun y hy => hq y (by simp [hy])) hm
 ·have ht := b0y h.ac
  suffices H : ∀ (q : List Opr) (j : Nat), (∀ x ∈ q, x.at_ < 345686400000) → e ∈ a0f j q → e.a ≤ 345686399999 from H a 0 (fun x hx => (ht x hx).2.2.2) h1
  intro q
  induction q with
  | nil => intro j _ h; simp [a0f] at h
  | cons x q ih =>
   intro j hq hm
   rw [a0f, List.mem_append] at hm
   rcases hm with hm | hm
   ·have hx := hq x (by simp)
    unfold rvB at hm
    rcases List.mem_cons.1 hm with rfl | hm
    ·show x.at_ ≤ _; omega
    ·split at hm
     ·simp only [List.mem_singleton] at hm; subst hm; show x.un ≤ _; omega
     ·simp at hm
   ·exact ih (j + 1) (fun y hy => hq y (by simp [hy])) hm
theorem c0M {to to' : Int} : ∀ (E : List Rev) (g : Rlg), (∀ e ∈ E, e.a ≤ to ∧ e.a ≤ to') → rnR l s a to E g = rnR l s a to' E g
 | [], g, _ => rfl
 | e :: r, g, h => by
  have he := h e (by simp)
  have ih := fun g => c0M r g fun x hx => h x (by simp [hx])
  unfold rnR at ih ⊢
  unfold a3V
  rw [if_neg (show ¬to < e.a by omega), if_neg (show ¬to' < e.a by omega)]
  exact ih _
theorem AllOk.rlEnd (h : AllOk l s a) : rlA l s a 345686400000 = rlA l s a 345686399999 :=
 c0M _ _ fun e he => by have := c1s h he; omega
theorem b1m (h : AllOk l s a) {to : Int} {i : Nat} (hi : i < l.length) : a8U (l.getD i default).k (J7 l s a to).out = (J7 l s a to).td.getD i default :=
 (h.lg to).t i hi
theorem b9z (h : AllOk l s a) (to : Int) : (l.map fun x => a8U x.k (J7 l s a to).out) = (J7 l s a to).td := by
 refine List.ext_getElem (by rw [List.length_map, (h.lg to).n]) fun i h1 h2 => ?_
 rw [List.length_map] at h1
 have h3 := b1m h (to := to) h1
 rw [List.getElem_map]
 rw [List.getD_eq_getElem?_getD, List.getD_eq_getElem?_getD, List.getElem?_eq_getElem h1, List.getElem?_eq_getElem h2] at h3
 exact h3
theorem c4C (h : AllOk l s a) {to : Int} (ht : to ≤ 345686399999) : c8i l (rlA l s a to).out = b9Y l (J7 l s a to).td := by
 unfold c8i b9Y ryL
 rw [(h.rl ht).1, b9z h to]
 refine a1D ?_
 refine List.Pairwise.filter _ ?_
 refine List.pairwise_iff_getElem.2 fun i j hi hj hij => ?_
 have hg := h.lg to
 have e1 : (J7 l s a to).td[i] = (J7 l s a to).td.getD i default := by rw [List.getD_eq_getElem?_getD, List.getElem?_eq_getElem hi]; rfl
 have e2 : (J7 l s a to).td[j] = (J7 l s a to).td.getD j default := by rw [List.getD_eq_getElem?_getD, List.getElem?_eq_getElem hj]; rfl
 rw [e1, e2, Q2, Q3]
 rw [hg.n] at hi hj
 have hlt : ltS ((J7 l s a to).td.getD i default).al ((J7 l s a to).td.getD j default).al := by
  rw [hg.k i hi, hg.k j hj]; exact h.al.up i j hij hj
 unfold ltY ltZ
 exact ⟨fun h1 => h1.imp id fun h1 => ⟨h1.1, .inl h1.2⟩, fun h1 => h1.imp id fun h1 => ⟨h1.1, h1.2.resolve_right fun h2 => F9 h2.2 hlt⟩⟩
theorem c3B (h : AllOk l s a) {f t : Int} (ht : t ≤ 345686400000) : ((rlA l s a (t - 1)).out.filter fun x => !decide (x.si < f)) = lgF f t (J7 l s a (t - 1)).out := by
 rw [(h.rl (show t - 1 ≤ 345686399999 by omega)).1]
 unfold lgF
 refine List.filter_congr fun z hz => ?_
 have := (h.lg (t - 1)).b z hz
 unfold inW
 rw [← decide_not, decide_eq_decide]
 omega
end
def a5h : List Ann := (aL [[0,1,2,9021],[0,1,2,8,9021],[0,1,2,8,15,9021]] ++ [⟨(kP [6,7] [] []),[],[],[(6,1)],[]⟩,⟨(kP [9,9021] [9021] [9019,500021,600021]),[],[],[],[(20,⟨[],[],[9021],[9019,500021,600021],[]⟩)]⟩,⟨(kP [9,9021] [9021] [600021]),[],[],[],[(22,⟨[9021],[9019,500021,600021],[9021],[9019,500021,600021],[9019,500021]⟩)]⟩,⟨(kP [9,9021] [9021] []),[],[],[],[(27,⟨[],[600021],[],[600021],[600021]⟩)]⟩] ++ aL [[6,7]])
theorem d0g (x : Std) : FC Tryz.prog 55 none [.ag (u7 x)] (fun _ r => r = .tu []) := by
 refine fcE Tryz.func55 (aL [[]]) ?_
 exact qt
theorem b2w (up : List (List Int)) (at_ : Int) : ∀ (n i : Nat) (s : Sit), (U3 up at_ n i s).ig = s.ig
 | 0, i, s => rfl
 | n + 1, i, s => by rw [M6, b2w up at_ n, (a0P up at_ i s).2.2]
theorem a8x (l : List Alm) (a : List Opr) (to : Int) : ∀ (ev : List Ev) (s : Sit), (U9 l a to ev s).ig.length ≤ s.ig.length + ev.length
 | [], s => by simp [U9]
 | e :: r, s => by
  rw [U9, List.length_cons]
  have h1 := (Y4 l a e s).2.2
  split
  ·omega
  ·refine Nat.le_trans (a8x l a to r _) ?_
   split
   ·omega
   ·rw [b2w]; omega
theorem a7i {l : List Alm} {s : List Ser} {a : List Opr} (h : AllOk l s a) (to : Int) : (J7 l s a to).ig.length ≤ 500000 := by
 have h1 := a8x l a to (evs l s a) (O6 l)
 have h2 := h.ev
 rw [a3k] at h1
 rw [show (O6 l).ig = [] from rfl, List.length_nil] at h1
 show (U9 l a to (evs l s a) (O6 l)).ig.length ≤ 500000
 omega
theorem a9H (l : List Alm) (s : List Ser) (a : List Opr) (h : AllOk l s a) :
  FC Tryz.prog 16 none [r6 false l, B3 false s, u9 false a] (fun _ r => r = .tu [.one (.sl true 1 ((a0q (J7 l s a 345686399999).ig).map U5)), iv 0]) := by
 refine fcE Tryz.func16 a5h ?_
 have hl := h.al.len
 have hf := h.fault
 have hns := P2 l s a h.al h.se h.ac (by have := h.ev; omega)
 have hrun := a5K 55 d0g l a (evs l s a) 345686399999 (O6 l) (by omega) (by have := h.ac.len; omega) (fun x hx => a1t h.al _ x hx) h.run
 rw [show U9 l a 345686399999 (evs l s a) (O6 l) = J7 l s a 345686399999 from rfl] at hrun
 have hil := a7i h 345686399999
 generalize J7 l s a 345686399999 = T at *
 have hso := a1H T.ig (by omega)
 refine qc hf ?_
 refine qv ?_
 refine ⟨rfl, N4 ⟨[(9021, siN 0 l a (evs l s a) (upA l) true)], siR (O6 l)⟩ (.one (.bx 9021 0)) p21 q19 b8n b9q hns (by simp) rfl rfl rfl rfl ⟨rfl, rfl⟩ ?_⟩
 refine qv ?_
 refine ⟨rfl, y6 ⟨[(9021, siN 0 l a (U7 345686399999 (evs l s a)) (upA l) false)], siR T⟩ (.tu []) c5X c5Q b1c b3e hrun (by simp) rfl rfl rfl rfl rfl ⟨rfl, rfl⟩ ?_⟩
 refine qv ?_
 refine ⟨rfl, y6 ⟨[], [(600021, n9 (a0q T.ig))]⟩ (.tu []) (fun k => k) (Go.Ai.swp 600021 1000000) (fun _ => rfl) (Go.Ai.s8 600021 1000000) hso (by simp) rfl rfl rfl rfl rfl ⟨rfl, rfl⟩ ?_⟩
 exact qt
structure Drw (l : List Alm) (s : List Ser) (a : List Opr) : Prop where
 l3 : l.length ≤ 3
 s2 : s.length ≤ 2
 a8 : a.length ≤ 8
 sl : ∀ x ∈ l, x.sm
 ss : ∀ x ∈ s, x.sm 10
 sa : ∀ x ∈ a, x.sm
section
variable {l : List Alm} {s : List Ser} {a : List Opr}
theorem Drw.ok (h : Drw l s a) (h0 : alF l s a = 0) : AllOk l s a := by
 obtain ⟨h1, h2, h3⟩ := alF_zero.1 h0
 exact b8g h1 h2 h3 h.sl h.ss h.sa
theorem Drw.fault (h : Drw l s a) : FC Tryz.prog 42 none [r6 false l, B3 false s, u9 false a] (fun _ r => r = iv (alF l s a)) :=
 a2H l s a (by have := h.l3; omega) (by have := h.s2; omega) (by have := h.a8; omega) h.sl (fun x hx => ⟨(h.ss x hx).1, by have := (h.ss x hx).2; omega⟩) h.sa
theorem b0C {m : Nat} (h : ∀ x, (v7 s x).length ≤ m) (k : ByteArray) : ∀ l : List Alm, (wnK s k l).length ≤ m
 | [] => by simp [wnK]
 | x :: l => by
  rw [wnK]
  split
  ·exact h x
  ·exact b0C h k l
theorem a8y {m : Nat} (h : ∀ x, (v7 s x).length ≤ m) : ∀ (l : List Alm) (j : Nat), (W5 s j l).length ≤ 2 * m * l.length
 | [], j => by simp [W5]
 | x :: l, j => by
  have h1 := a8y h l (j + 1)
  have h2 : ∀ W : List (Int × Int), (W.flatMap (rvW j)).length ≤ 2 * W.length := fun W => by
   induction W with
   | nil => simp
   | cons v W ih =>
    rw [List.flatMap_cons, List.length_append, List.length_cons]
    have : (rvW j v).length ≤ 2 := by unfold rvW; split <;> simp
    omega
  have h3 := h2 (v7 s x)
  have h4 := h x
  rw [W5, List.length_append, List.length_cons, Nat.mul_add, Nat.mul_one]
  have h5 : (rvA s j x).length = ((v7 s x).flatMap (rvW j)).length := rfl
  omega
theorem a8w : ∀ (a : List Opr) (j : Nat), (a0f j a).length ≤ 2 * a.length
 | [], j => by simp [a0f]
 | x :: a, j => by
  have h1 := a8w a (j + 1)
  rw [a0f, List.length_append, List.length_cons]
  have : (rvB j x).length ≤ 2 := by unfold rvB; split <;> simp
  omega
theorem Drw.rl (h : Drw l s a) (h0 : alF l s a = 0) : RlOk l s a := by
 have ok := h.ok h0
 have hw : ∀ x, (v7 s x).length ≤ 10 := fun x => a4j (m := 10) (fun x hx => by have := (h.ss x hx).2; omega) x
 have h1 := a8y hw l 0
 have h2 := a8w a 0
 have h3 := h.l3
 have h4 := h.a8
 have h5 : (G4 l s a).length ≤ 76 := by unfold G4; rw [List.length_append]; omega
 have h6 : (W4 l s a).length = (G4 l s a).length := f0 _ _
 refine ⟨ok.al, ok.se, by have := h.s2; omega, by omega, by omega, fun k => Nat.le_trans (b0C hw k l) (by omega), ?_⟩
 have h7 : ((W4 l s a).length + 1) * l.length ≤ 77 * 3 := Nat.mul_le_mul (by omega) h3
 omega
/-! ### the answers -/
def saE (l : List Alm) (s : List Ser) (a : List Opr) (key : ByteArray) (at_ : Int) : Int := if alF l s a ≠ 0 then alF l s a else if q8 l key < 0 then 8 else if 0 ≤ at_ ∧ at_ ≤ 345686399999 then 0 else 1
def saS (l : List Alm) (s : List Ser) (a : List Opr) (key : ByteArray) (at_ : Int) : Std := if saE l s a key at_ = 0 then (J7 l s a at_).td.getD (q8 l key).toNat default else ⟨emp, 0, 0⟩
def snE (l : List Alm) (s : List Ser) (a : List Opr) (at_ : Int) : Int := if alF l s a ≠ 0 then alF l s a else if 0 ≤ at_ ∧ at_ ≤ 345686399999 then 0 else 1
def snL (l : List Alm) (s : List Ser) (a : List Opr) (at_ : Int) : List Std := if snE l s a at_ = 0 then b9Y l (J7 l s a at_).td else []
def igL (l : List Alm) (s : List Ser) (a : List Opr) : List Int := if alF l s a = 0 then a0q (J7 l s a 345686399999).ig else []
def lgE (l : List Alm) (s : List Ser) (a : List Opr) (f t : Int) : Int := if alF l s a ≠ 0 then alF l s a else if 0 ≤ f ∧ f ≤ t ∧ t ≤ 345686400000 then 0 else 1
def lgL (l : List Alm) (s : List Ser) (a : List Opr) (f t : Int) : List Std := if lgE l s a f t = 0 then lgF f t (J7 l s a (t - 1)).out else []
theorem saE_zero {key : ByteArray} {at_ : Int} : saE l s a key at_ = 0 ↔ alF l s a = 0 ∧ 0 ≤ q8 l key ∧ (0 ≤ at_ ∧ at_ ≤ 345686399999) := by
 unfold saE
 (repeat' split) <;> constructor <;> intro h <;> first | omega | (obtain ⟨h1, h2, h3⟩ := h; omega)
theorem snE_zero {at_ : Int} : snE l s a at_ = 0 ↔ alF l s a = 0 ∧ (0 ≤ at_ ∧ at_ ≤ 345686399999) := by
 unfold snE
 (repeat' split) <;> constructor <;> intro h <;> first | omega | (obtain ⟨h1, h2⟩ := h; omega)
theorem lgE_zero {f t : Int} : lgE l s a f t = 0 ↔ alF l s a = 0 ∧ (0 ≤ f ∧ f ≤ t ∧ t ≤ 345686400000) := by
 unfold lgE
 (repeat' split) <;> constructor <;> intro h <;> first | omega | (obtain ⟨h1, h2⟩ := h; omega)
theorem a5T (h : Drw l s a) (key : ByteArray) (at_ : Int) :
  FC Tryz.prog 14 none [r6 false l, B3 false s, u9 false a, sv key, iv at_] (fun _ r => r = .tu [.ag (u7 (saS l s a key at_)), iv (saE l s a key at_)]) := by
 have hf := h.fault
 have hl := h.l3
 by_cases h0 : alF l s a = 0
 ·have ok := h.ok h0
  by_cases hk : 0 ≤ q8 l key
  ·by_cases hm : 0 ≤ at_ ∧ at_ ≤ 345686399999
   ·have h1 := b0k l s a ok key at_ hk hm
    have h2 : saE l s a key at_ = 0 := saE_zero.2 ⟨h0, hk, hm⟩
    unfold saS; rw [h2, if_pos rfl]; exact h1
   ·have h2 : saE l s a key at_ = 1 := by unfold saE; rw [if_neg (by omega), if_neg (by omega), if_neg hm]
    unfold saS; rw [h2, if_neg (by omega)]
    refine fcE Tryz.func14 K0 ?_
    have hfi := O8 key l (by omega) ok.al.up
    have hmo := N5 at_
    rw [decide_eq_false hm] at hmo
    rw [h0] at hf
    refine qc hf ?_
    refine qc hfi ?_
    refine qc hmo ?_
    exact qt
  ·have h2 : saE l s a key at_ = 8 := by unfold saE; rw [if_neg (by omega), if_pos (by omega)]
   unfold saS; rw [h2, if_neg (by omega)]
   refine fcE Tryz.func14 K0 ?_
   have hfi := O8 key l (by omega) ok.al.up
   rw [h0] at hf
   refine qc hf ?_
   refine qc hfi ?_
   exact qt
 ·have h2 : saE l s a key at_ = alF l s a := by unfold saE; rw [if_pos h0]
  unfold saS; rw [h2, if_neg h0]
  refine fcE Tryz.func14 K0 ?_
  generalize alF l s a = e at *
  refine qc hf ?_
  exact qt
theorem a5a (h : Drw l s a) (at_ : Int) :
  FC Tryz.prog 15 none [r6 false l, B3 false s, u9 false a, iv at_] (fun _ r => r = .tu [.one (.sl true 3 ((snL l s a at_).map u7)), iv (snE l s a at_)]) := by
 have hf := h.fault
 have hl := h.l3
 by_cases h0 : alF l s a = 0
 ·have ok := h.ok h0
  by_cases hm : 0 ≤ at_ ∧ at_ ≤ 345686399999
  ·have h1 := a6k l s a ok at_ (by omega) hm fun z hz => by
    obtain ⟨i, hi, _, _, he⟩ := ok.td at_ hz
    rw [he]; omega
   have h2 : snE l s a at_ = 0 := snE_zero.2 ⟨h0, hm⟩
   unfold snL; rw [h2, if_pos rfl]; exact h1
  ·have h2 : snE l s a at_ = 1 := by unfold snE; rw [if_neg (by omega), if_neg hm]
   unfold snL; rw [h2, if_neg (by omega)]
   refine fcE Tryz.func15 O3 ?_
   have hmo := N5 at_
   rw [decide_eq_false hm] at hmo
   rw [h0] at hf
   refine qc hf ?_
   refine qc hmo ?_
   exact qt
 ·have h2 : snE l s a at_ = alF l s a := by unfold snE; rw [if_pos h0]
  unfold snL; rw [h2, if_neg h0]
  refine fcE Tryz.func15 O3 ?_
  generalize alF l s a = e at *
  refine qc hf ?_
  exact qt
theorem a6J (h : Drw l s a) :
  FC Tryz.prog 16 none [r6 false l, B3 false s, u9 false a] (fun _ r => r = .tu [.one (.sl true 1 ((igL l s a).map U5)), iv (alF l s a)]) := by
 have hf := h.fault
 have hl := h.l3
 by_cases h0 : alF l s a = 0
 ·have h1 := a9H l s a (h.ok h0)
  unfold igL; rw [h0, if_pos rfl]; exact h1
 ·unfold igL; rw [if_neg h0]
  refine fcE Tryz.func16 a5h ?_
  generalize alF l s a = e at *
  refine qc hf ?_
  exact qt
theorem a6P (h : Drw l s a) (f t : Int) :
  FC Tryz.prog 57 none [r6 false l, B3 false s, u9 false a, .ag [.g (.int .i64 f), .g (.int .i64 t)]] (fun _ r => r = iv (lgE l s a f t)) := by
 have hf := h.fault
 refine fcE Tryz.func57 a0u ?_
 have hwf := a2P f t
 unfold lgE
 generalize alF l s a = e at *
 by_cases h0 : e = 0
 ·subst h0
  rw [if_neg (by omega)]
  by_cases hw : 0 ≤ f ∧ f ≤ t ∧ t ≤ 345686400000
  ·rw [decide_eq_true hw] at hwf
   rw [if_pos hw]
   refine qc hf ?_
   refine qc hwf ?_
   exact qt
  ·rw [decide_eq_false hw] at hwf
   rw [if_neg hw]
   refine qc hf ?_
   refine qc hwf ?_
   exact qt
 ·rw [if_pos h0]
  refine qc hf ?_
  exact qt
theorem c5s (h : Drw l s a) (f t : Int) :
  FC Tryz.prog 17 none [r6 false l, B3 false s, u9 false a, .ag [.g (.int .i64 f), .g (.int .i64 t)]] (fun _ r => r = .tu [.one (.sl true 3 ((lgL l s a f t).map u7)), iv (lgE l s a f t)]) := by
 have hf := a6P h f t
 by_cases h0 : lgE l s a f t = 0
 ·obtain ⟨h1, h2⟩ := lgE_zero.1 h0
  have h3 := c7V l s a (h.ok h1) f t h2
  unfold lgL; rw [h0, if_pos rfl]; exact h3
 ·unfold lgL; rw [if_neg h0]
  refine fcE Tryz.func17 a7F ?_
  generalize lgE l s a f t = e at *
  refine qc hf ?_
  exact qt
end
end Go.Proofs.YtbhgndiboeppeaaGreatDoor

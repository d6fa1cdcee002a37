/- Which alarm has a key, and which samples a tag; the parents of an alarm; right alarms are let by. The parents of an alarm; right alarms, and right series, are let by. -/
import Derived.Test.YtbhgndiboeppeaaGreatDoorAlw
set_option linter.all false
set_option maxHeartbeats 4000000
set_option maxRecDepth 100000
namespace Go.Proofs.YtbhgndiboeppeaaGreatDoor
open Go Go.Ai
theorem d4E {α : Type} [Inhabited α] {f : α → ByteArray} {l : List α} {key : ByteArray} (ha : a0h f l) : ∃ p : Nat, p ≤ l.length ∧ (∀ j, j < p → ltS (f (l.getD j default)) key) ∧ (∀ j, p ≤ j → j < l.length → ¬ltS (f (l.getD j default)) key) := by
 have h : ∀ n, n ≤ l.length → ∃ p : Nat, p ≤ n ∧ (∀ j, j < p → ltS (f (l.getD j default)) key) ∧ (∀ j, p ≤ j → j < n → ¬ltS (f (l.getD j default)) key) := by
  intro n
  induction n with
  | zero => intro _; exact ⟨0, Nat.le_refl _, fun j hj => by omega, fun j _ hj => by omega⟩
  | succ n ih =>
   intro hn
   obtain ⟨p, h1, h2, h3⟩ := ih (by omega)
   by_cases c : ltS (f (l.getD n default)) key
   ·refine ⟨n + 1, Nat.le_refl _, fun j hj => d0t ha (show j ≤ n by omega) (by omega) c, fun j h4 h5 => by omega⟩
   ·refine ⟨p, by omega, h2, fun j h4 h5 => ?_⟩
    by_cases e : j = n
    ·subst e; exact c
    ·exact h3 j h4 (by omega)
 exact h l.length (Nat.le_refl _)
theorem a7L (key : ByteArray) (x : Alm) : FC Tryz.prog 82 none [.ag (z7 x), sv key] (fun _ r => r = iv (X3 x.k key)) := by
 refine fcE Tryz.func82 [aN [1,2] [2] [],aN [4] [] []] ?_
 refine qc (a0n _ _) ?_
 exact qt
def c6P (key : ByteArray) (l : List Alm) (i j : Int) : AS := ⟨m9 [(0, r6 false l), (1, sv key), (2, .one (.fn 82 [])), (8, iv l.length), (9, iv i), (10, iv j)], f9 [], f9 []⟩
theorem c9J (key : ByteArray) (l : List Alm) (hl : l.length ≤ 1000000) (ha : a0h Alm.k l) : ∃ i : Nat, i ≤ l.length ∧ (∀ j, j < i → ltS (l.getD j default).k key) ∧ (∀ j, i ≤ j → j < l.length → ¬ltS (l.getD j default).k key) ∧
  FC Tryz.prog 81 none [r6 false l, sv key, .one (.fn 82 [])] (fun _ r => r = .tu [iv i, bv (decide (i < l.length ∧ (l.getD i default).k = key))]) := by
 obtain ⟨p, hp1, hp2, hp3⟩ : ∃ p : Nat, p ≤ l.length ∧ (∀ j, j < p → ltS (l.getD j default).k key) ∧ (∀ j, p ≤ j → j < l.length → ¬ltS (l.getD j default).k key) := d4E ha
 refine ⟨p, hp1, hp2, hp3, ?_⟩
 refine fcE Tryz.func81 (aL [[0,1,2],[0,1,2,8],[0,1,2,8,9,10],[0,1,2,8,9,10,17],[0,1,2,8,9,10,11],[0,1,2,8,9,10,11,31],[0,1,2,8,9,10],[0,1,2,8,9,10],[6,7]]) ?_
 refine qv ?_
 refine n8 (c6P key l) (fun i j => 0 ≤ i ∧ i ≤ p ∧ (p : Int) ≤ j ∧ j ≤ l.length) (fun i j => (j - i).toNat) 0 l.length ⟨by omega, by omega, by omega, by omega⟩ rfl ?_
 rintro i j ⟨g1, g2, g3, g4⟩
 unfold c6P
 have eh : IntKind.i64.wrap ((i + j).fdiv (2 ^ min (Int.toNat 1) 64)) = (i + j) / 2 := by
  have : (i + j).fdiv (2 ^ min (Int.toNat 1) 64) = (i + j) / 2 := Int.fdiv_eq_ediv_of_nonneg _ (by decide)
  rw [this, wrap_i64 _ (by omega) (by omega)]
 by_cases hij : i < j
 ·have em := e8 z7 l ((i + j) / 2) [] (by omega) (by omega)
  have hc := a7L key (l.getD ((i + j) / 2).toNat default)
  rw [o6] at hc
  refine qv ?_
  simp only [eh]
  refine n6 hc (.inl rfl) ?_
  by_cases c : ((i + j) / 2).toNat < p
  ·have h1 := hp2 _ c
   have h2 : X3 (l.getD ((i + j) / 2).toNat default).k key < 0 := by
    rcases I0 (l.getD ((i + j) / 2).toNat default).k key with ⟨h, e⟩ | ⟨h, _⟩ | ⟨_, h⟩
    ·rw [e] at h1; exact absurd h1 (r8 _)
    ·omega
    ·exact absurd h1 (F9 h)
   refine qv ?_
   exact ⟨(i + j) / 2 + 1, j, rfl, ⟨by omega, by omega, by omega, by omega⟩, by omega⟩
  ·have h1 := hp3 _ (by omega) (show ((i + j) / 2).toNat < l.length by omega)
   have h2 : ¬X3 (l.getD ((i + j) / 2).toNat default).k key < 0 := by
    rcases I0 (l.getD ((i + j) / 2).toNat default).k key with ⟨h, e⟩ | ⟨_, h⟩ | ⟨h, _⟩
    ·omega
    ·exact absurd h h1
    ·omega
   refine qv ?_
   exact ⟨i, (i + j) / 2, rfl, ⟨by omega, by omega, by omega, by omega⟩, by omega⟩
 ·have ei : i = p := by omega
  subst ei
  by_cases c : p < l.length
  ·have em := e8 z7 l p [] (by omega) (by omega)
   rw [show ((p : Int)).toNat = p by omega] at em
   have hc := a7L key (l.getD p default)
   rw [o6] at hc
   refine qc hc ?_
   have h2 : X3 (l.getD p default).k key = 0 ↔ (l.getD p default).k = key := by
    rcases I0 (l.getD p default).k key with ⟨h, e⟩ | ⟨h, e⟩ | ⟨h, e⟩
    ·exact ⟨fun _ => e, fun _ => h⟩
    ·exact ⟨fun h3 => by omega, fun h3 => by rw [h3] at e; exact absurd e (r8 _)⟩
    ·exact ⟨fun h3 => by omega, fun h3 => by rw [h3] at e; exact absurd e (r8 _)⟩
   by_cases c2 : (l.getD p default).k = key
   ·rw [decide_eq_true (p := p < l.length ∧ (l.getD p default).k = key) ⟨c, c2⟩]
    have h3 := h2.2 c2
    refine qv ?_
    rw [decide_eq_true h3]
   ·rw [decide_eq_false (p := p < l.length ∧ (l.getD p default).k = key) (fun h => c2 h.2)]
    have h3 : ¬X3 (l.getD p default).k key = 0 := fun h => c2 (h2.1 h)
    refine qv ?_
    rw [decide_eq_false h3]
  ·rw [decide_eq_false (p := p < l.length ∧ (l.getD p default).k = key) (fun h => c h.1)]
   exact qt
theorem O8 (key : ByteArray) (l : List Alm) (hl : l.length ≤ 1000000) (ha : a0h Alm.k l) : FC Tryz.prog 43 none [r6 false l, sv key] (fun _ r => r = iv (q8 l key)) := by
 refine fcE Tryz.func43 (aL [[0,1],[5,6],[5,14],[4],[4]]) ?_
 obtain ⟨i, h1, h2, h3, hc⟩ := c9J key l hl ha
 have hi := b2C ha h1 h2 h3
 rw [show D0 (fun x : Alm => decide (x.k = key)) 0 l = q8 l key from rfl] at hi
 rw [hi]
 by_cases c : i < l.length ∧ (l.getD i default).k = key
 ·rw [if_pos c]
  rw [decide_eq_true c] at hc
  refine qc hc ?_
  exact qt
 ·rw [if_neg c]
  rw [decide_eq_false c] at hc
  refine qc hc ?_
  exact qt
theorem b3g (key : ByteArray) (x : Ser) : FC Tryz.prog 119 none [.ag (b0n false x), sv key] (fun _ r => r = iv (X3 x.t key)) := by
 refine fcE Tryz.func119 [aN [1,2] [2] [],aN [4] [] []] ?_
 refine qc (a0n _ _) ?_
 exact qt
def c6n (key : ByteArray) (l : List Ser) (i j : Int) : AS := ⟨m9 [(0, B3 false l), (1, sv key), (2, .one (.fn 119 [])), (8, iv l.length), (9, iv i), (10, iv j)], f9 [], f9 []⟩
theorem c9V (key : ByteArray) (l : List Ser) (hl : l.length ≤ 1000000) (ha : a0h Ser.t l) : ∃ i : Nat, i ≤ l.length ∧ (∀ j, j < i → ltS (l.getD j default).t key) ∧ (∀ j, i ≤ j → j < l.length → ¬ltS (l.getD j default).t key) ∧
  FC Tryz.prog 118 none [B3 false l, sv key, .one (.fn 119 [])] (fun _ r => r = .tu [iv i, bv (decide (i < l.length ∧ (l.getD i default).t = key))]) := by
 obtain ⟨p, hp1, hp2, hp3⟩ : ∃ p : Nat, p ≤ l.length ∧ (∀ j, j < p → ltS (l.getD j default).t key) ∧ (∀ j, p ≤ j → j < l.length → ¬ltS (l.getD j default).t key) := d4E ha
 refine ⟨p, hp1, hp2, hp3, ?_⟩
 refine fcE Tryz.func118 (aL [[0,1,2],[0,1,2,8],[0,1,2,8,9,10],[0,1,2,8,9,10,17],[0,1,2,8,9,10,11],[0,1,2,8,9,10,11,31],[0,1,2,8,9,10],[0,1,2,8,9,10],[6,7]]) ?_
 refine qv ?_
 refine n8 (c6n key l) (fun i j => 0 ≤ i ∧ i ≤ p ∧ (p : Int) ≤ j ∧ j ≤ l.length) (fun i j => (j - i).toNat) 0 l.length ⟨by omega, by omega, by omega, by omega⟩ rfl ?_
 rintro i j ⟨g1, g2, g3, g4⟩
 unfold c6n
 have eh : IntKind.i64.wrap ((i + j).fdiv (2 ^ min (Int.toNat 1) 64)) = (i + j) / 2 := by
  have : (i + j).fdiv (2 ^ min (Int.toNat 1) 64) = (i + j) / 2 := Int.fdiv_eq_ediv_of_nonneg _ (by decide)
  rw [this, wrap_i64 _ (by omega) (by omega)]
 by_cases hij : i < j
 ·have em := e8 (b0n true) l ((i + j) / 2) [] (by omega) (by omega)
  have hc := b3g key (l.getD ((i + j) / 2).toNat default)
  rw [a1J] at hc
  refine qv ?_
  simp only [eh]
  refine n6 hc (.inl rfl) ?_
  by_cases c : ((i + j) / 2).toNat < p
  ·have h1 := hp2 _ c
   have h2 : X3 (l.getD ((i + j) / 2).toNat default).t key < 0 := by
    rcases I0 (l.getD ((i + j) / 2).toNat default).t key with ⟨h, e⟩ | ⟨h, _⟩ | ⟨_, h⟩
    ·rw [e] at h1; exact absurd h1 (r8 _)
    ·omega
    ·exact absurd h1 (F9 h)
   refine qv ?_
   exact ⟨(i + j) / 2 + 1, j, rfl, ⟨by omega, by omega, by omega, by omega⟩, by omega⟩
  ·have h1 := hp3 _ (by omega) (show ((i + j) / 2).toNat < l.length by omega)
   have h2 : ¬X3 (l.getD ((i + j) / 2).toNat default).t key < 0 := by
    rcases I0 (l.getD ((i + j) / 2).toNat default).t key with ⟨h, e⟩ | ⟨_, h⟩ | ⟨h, _⟩
    ·omega
    ·exact absurd h h1
    ·omega
   refine qv ?_
   exact ⟨i, (i + j) / 2, rfl, ⟨by omega, by omega, by omega, by omega⟩, by omega⟩
 ·have ei : i = p := by omega
  subst ei
  by_cases c : p < l.length
  ·have em := e8 (b0n true) l p [] (by omega) (by omega)
   rw [show ((p : Int)).toNat = p by omega] at em
   have hc := b3g key (l.getD p default)
   rw [a1J] at hc
   refine qc hc ?_
   have h2 : X3 (l.getD p default).t key = 0 ↔ (l.getD p default).t = key := by
    rcases I0 (l.getD p default).t key with ⟨h, e⟩ | ⟨h, e⟩ | ⟨h, e⟩
    ·exact ⟨fun _ => e, fun _ => h⟩
    ·exact ⟨fun h3 => by omega, fun h3 => by rw [h3] at e; exact absurd e (r8 _)⟩
    ·exact ⟨fun h3 => by omega, fun h3 => by rw [h3] at e; exact absurd e (r8 _)⟩
   by_cases c2 : (l.getD p default).t = key
   ·rw [decide_eq_true (p := p < l.length ∧ (l.getD p default).t = key) ⟨c, c2⟩]
    have h3 := h2.2 c2
    refine qv ?_
    rw [decide_eq_true h3]
   ·rw [decide_eq_false (p := p < l.length ∧ (l.getD p default).t = key) (fun h => c2 h.2)]
    have h3 : ¬X3 (l.getD p default).t key = 0 := fun h => c2 (h2.1 h)
    refine qv ?_
    rw [decide_eq_false h3]
  ·rw [decide_eq_false (p := p < l.length ∧ (l.getD p default).t = key) (fun h => c h.1)]
   exact qt
def d1w (s : List Ser) (tag : ByteArray) : Val := if 0 ≤ D0 (fun x : Ser => decide (x.t = tag)) 0 s then a0Z false (s.getD (D0 (fun x : Ser => decide (x.t = tag)) 0 s).toNat default).l else a0Z true []
theorem b0a (tag : ByteArray) (s : List Ser) (hl : s.length ≤ 1000000) (ha : a0h Ser.t s) : FC Tryz.prog 85 none [B3 false s, sv tag] (fun _ r => r = d1w s tag) := by
 refine fcE Tryz.func85 (aL [[0,1],[0,5,6],[0,5,14]] ++ [⟨(kP [4] [] []),[],[],[(4,3)],[]⟩] ++ aL [[4]]) ?_
 obtain ⟨i, h1, h2, h3, hc⟩ := c9V tag s hl ha
 have hi := b2C ha h1 h2 h3
 unfold d1w
 rw [hi]
 by_cases c : i < s.length ∧ (s.getD i default).t = tag
 ·rw [if_pos c, if_pos (by omega), show ((i : Int)).toNat = i by omega]
  rw [decide_eq_true c] at hc
  have em := e8 (b0n true) s i [] (by omega) (by omega)
  rw [show ((i : Int)).toNat = i by omega] at em
  refine qc hc ?_
  exact qt
 ·rw [if_neg c, if_neg (by omega)]
  rw [decide_eq_false c] at hc
  refine qc hc ?_
  refine qv ?_
  rfl
def a0B : List Ann := (aM [3] [] [[0,3]] ++ [⟨(kP [0,3,5] [3] []),[(5,3,1)],[],[],[]⟩] ++ aM [3] [5] [[0,3,5,16],[0,3,5,6],[0,3,5,6],[0,3,5]] ++ aL [[4]])
def a0F : List Ann := (aL [[0],[0,12],[2],[0,13,14,15],[0,13,14,15,16]] ++ aM [4] [] [[0,3,4,13,14,15],[0,3,4,5,13,14,15],[0,3,4,5,13,14,15,23]] ++ aL [[2],[0,13,14,15,37],[2],[0,13,14,15],[0,39,40,41],[0,39,40,41,42]] ++ aM [7] [] [[0,7,39,40,41]] ++ aL [[0,39,40,41,54],[2],[0,39,40,41],[0,56,57,58],[0,56,57,58,59]] ++ aM [9] [] [[0,9,56,57,58]] ++ aL [[0,56,57,58,68],[2],[0,56,57,58],[2]])
def a3S : List Ann := (aL [[0],[0,8],[2],[0,9,10,11],[0,9,10,11,12]] ++ aM [4] [] [[0,3,4,9,10,11],[0,3,4,9,10,11,16]] ++ aL [[2]] ++ aM [4] [] [[0,4,9,10,11,21]] ++ aL [[2],[0,5,9,10,11],[0,5,9,10,11,39],[2],[0,9,10,11],[2]])
theorem d6d : ((0 : Nat) < 1) = True := by simp
attribute [go_sem] d6d
def a9r (l : List Alm) (y : Alm) (out : List Int) : AS := ⟨m9 [(0, r6 false l), (3, .one (.bx 3 0)), (5, .one (.ow 5 0))], f9 [(3, z7 y)], f9 [(5, ⟨0, 3, 1, out.map U5⟩)]⟩
theorem a9M (l : List Alm) (h : J8 l) (x : Alm) (hx : x ∈ l) : FC Tryz.prog 83 none [r6 false l, .ag (z7 x)] (fun _ r => r = a1p true (G0 l (l.length + 1) x)) := by
 refine fcE Tryz.func83 a0B ?_
 have hl := h.len
 simp only [o6]
 refine qv ?_
 refine n8 (fun (y : Alm) (out : List Int) => a9r l y out) (fun y out => y ∈ l ∧ out.length ≤ l.length + 1 ∧ out ++ G0 l (l.length + 1 - out.length) y = G0 l (l.length + 1) x) (fun _ out => l.length + 1 - out.length) x [] ⟨hx, by simp, by simp⟩ ?_ ?_
 ·unfold a9r
  simp only [o6, List.map_nil, AS.mk.injEq]
  refine ⟨?_, trivial, ?_⟩
  ·funext n
   simp only [a1U, a1N, a3l]
   by_cases h5 : n = 5
   ·subst h5; rfl
   ·simp only [h5, if_false]
  ·funext n; rfl
 rintro y out ⟨h1, h2, h3⟩
 unfold a9r
 by_cases c1 : y.p = emp
 ·have e : G0 l (l.length + 1 - out.length) y = [] := by
   cases hn : l.length + 1 - out.length with
   | zero => rfl
   | succ n => rw [G0, if_pos c1]
  rw [e, List.append_nil] at h3
  rw [← h3]
  have c1' : ¬¬y.p = emp := fun h => h c1
  exact qts
 ·by_cases c2 : out.length ≤ l.length
  ·have hix := h.par y h1 c1
   have hc := O8 y.p l (by omega) h.up
   have ey := e8 z7 l (q8 l y.p) [] hix.1 hix.2
   have hpm : a3h l y ∈ l := j5 l _ (by omega)
   rw [show l.length + 1 - out.length = (l.length + 1 - (out ++ [q8 l y.p]).length) + 1 by simp; omega, G0, if_neg c1] at h3
   have epo : a3h l y = l.getD (q8 l y.p).toNat default := rfl
   rw [epo] at h3 hpm
   refine qcs hc ?_
   refine qvs ?_
   refine ⟨l.getD (q8 l y.p).toNat default, out ++ [q8 l y.p], ?_, ⟨hpm, by simp; omega, ?_⟩, by simp; omega⟩
   ·simp only [o6, List.map_append, List.map_cons, List.map_nil, a0i]
   ·rw [List.append_assoc, List.singleton_append]; exact h3
  ·rw [show l.length + 1 - out.length = 0 by omega, G0, List.append_nil] at h3
   rw [← h3]
   exact qts
def c8X (l : List Alm) (i : Int) : AS := ⟨m9 [(0, r6 false l), (13, r6 false l), (14, iv l.length), (15, iv i)], f9 [], f9 []⟩
def c8j (l : List Alm) (i : Int) : AS := ⟨m9 [(0, r6 false l), (39, r6 false l), (40, iv l.length), (41, iv i)], f9 [], f9 []⟩
def d1d (l : List Alm) (i : Int) : AS := ⟨m9 [(0, r6 false l), (56, r6 false l), (57, iv l.length), (58, iv i)], f9 [], f9 []⟩
def b4M (l : List Ser) (i : Nat) : Option ByteArray := if i = 0 then none else some (l.getD (i - 1) default).t
theorem a5q (l : List Ser) (i : Nat) : b4M l (i + 1) = some (l.getD i default).t := rfl
def a7b (l : List Ser) (i : Int) : AS := ⟨m9 [(0, B3 false l), (9, B3 false l), (10, iv l.length), (11, iv i)], f9 [], f9 []⟩
set_option maxHeartbeats 12000000 in
theorem a6E (l : List Ser) (hl : l.length ≤ 1000000) (hsm : ∀ x ∈ l, x.t.size ≤ 1000 ∧ x.l.length ≤ 1000000) : FC Tryz.prog 12 none [B3 false l] (fun _ r => r = iv (asF l)) := by
 refine fcE Tryz.func12 (aL [[0],[0,8],[2],[0,9,10,11],[0,9,10,11,12]] ++ aM [4] [] [[0,3,4,9,10,11],[0,3,4,9,10,11,16]] ++ aL [[2]] ++ aM [4] [] [[0,4,9,10,11,21]] ++ aL [[2],[0,5,9,10,11],[0,5,9,10,11,39],[2],[0,9,10,11],[2]]) ?_
 unfold asF
 by_cases c0 : l.length > 200
 ·rw [if_pos c0]
  exact qt
 rw [if_neg c0]
 refine qv ?_
 refine j9 (a7b l) (fun i => 0 ≤ i ∧ i ≤ l.length ∧ b0p (b4M l i.toNat) (l.drop i.toNat) = b0p none l) (fun i => (l.length - i).toNat) 0 ⟨by omega, by omega, rfl⟩ rfl ?_
 rintro i ⟨g1, g2, g3⟩
 unfold a7b
 by_cases hi : i < l.length
 ·have e2 : (i + 1).toNat = i.toNat + 1 := by omega
  have em := e8 (b0n true) l i [] g1 hi
  have hm := hsm _ (j5 l i.toNat (by omega))
  rw [m7 l i.toNat (by omega), b0p, ← e2] at g3
  have hk := a1y (l.getD i.toNat default).t (by omega)
  have hs := a2k (l.getD i.toNat default).l (by omega)
  cases c1 : m5 (l.getD i.toNat default).t with
  | false =>
   rw [c1] at hk
   rw [if_pos c1] at g3
   rw [← g3]
   refine qcs hk ?_
   exact qts
  | true =>
   rw [c1] at hk
   rw [if_neg (by rw [c1]; simp)] at g3
   have step : ∀ (S : Int), n7 (l.getD i.toNat default).l = S → True := fun _ _ => trivial
   by_cases hi0 : 0 < i
   ·have ep := e8 (b0n true) l (i - 1) [] (by omega) (by omega)
    have e4 : b4M l i.toNat = some (l.getD (i - 1).toNat default).t := by
     unfold b4M; rw [if_neg (by omega)]
     rw [show i.toNat - 1 = (i - 1).toNat by omega]
    rw [e4] at g3
    have ho := a7h (a := (l.getD i.toNat default).t) (b := (l.getD (i - 1).toNat default).t)
    by_cases c2 : ltS (l.getD (i - 1).toNat default).t (l.getD i.toNat default).t
    ·rw [if_neg (show ¬(D9 (some (l.getD (i - 1).toNat default).t) (l.getD i.toNat default).t = true) from fun h => (of_decide_eq_true h) c2)] at g3
     have h5 : ¬(ltS (l.getD i.toNat default).t (l.getD (i - 1).toNat default).t ∨ (l.getD i.toNat default).t = (l.getD (i - 1).toNat default).t) := fun h => (ho.1 h) c2
     by_cases c3 : n7 (l.getD i.toNat default).l ≠ 0
     ·rw [if_pos c3] at g3
      rw [← g3]
      refine qcs hk ?_
      refine qcs hs ?_
      exact qts
     ·rw [if_neg c3] at g3
      refine qcs hk ?_
      refine qcs hs ?_
      refine qvs ?_
      exact ⟨i + 1, rfl, ⟨by omega, by omega, by rw [e2, a5q, ← e2]; exact g3⟩, by omega⟩
    ·rw [if_pos (show D9 (some (l.getD (i - 1).toNat default).t) (l.getD i.toNat default).t = true from decide_eq_true c2)] at g3
     have h5 := ho.2 c2
     rw [← g3]
     refine qcs hk ?_
     exact qts
   ·have e0 : i = 0 := by omega
    subst e0
    rw [show b4M l (Int.toNat 0) = none from rfl, if_neg (by simp [D9])] at g3
    by_cases c3 : n7 (l.getD (Int.toNat 0) default).l ≠ 0
    ·rw [if_pos c3] at g3
     rw [← g3]
     refine qcs hk ?_
     refine qcs hs ?_
     exact qts
    ·rw [if_neg c3] at g3
     refine qcs hk ?_
     refine qcs hs ?_
     refine qvs ?_
     exact ⟨1, rfl, ⟨by omega, by omega, g3⟩, by omega⟩
 ·rw [List.drop_eq_nil_of_le (by omega), b0p] at g3
  rw [← g3]
  exact qt
end Go.Proofs.YtbhgndiboeppeaaGreatDoor

/- What is common to the functions that draw numbers from a stream. -/
import Derived.Test.YtnlafmigfjlnnaaGreatDoorAiE
import Derived.Test.YtnlafmigfjlnnaaGreatDoorProg
set_option linter.all false
set_option maxHeartbeats 0
set_option maxRecDepth 100000
namespace Go.Ai
open Go
def N3 (n : Int) : List Cel := [.g (.int .i64 n)]
abbrev W0 (fr : Bool) (l : List Int) : Val := .one (.sl fr 1 (l.map N3))
def I64 (n : Int) : Prop := -9223372036854775808 <= n ∧ n <= 9223372036854775807
def m4 (L : List Int) (at_ : Int) : List Cel := [.sl false 1 (L.map N3), .g (.int .i64 at_)]
def Gen (P : Program) (f : FuncId) (args : List Val) (n : Nat) (R : Val -> Prop) : Prop :=
 ∀ (L : List Int) (p : Int), (∀ x ∈ L, I64 x) -> L.length <= 9223372036854775807 -> 0 <= p -> p + n <= 4611686018427387904 ->
  FC P f (some (m4 L p)) args fun cs r => (∃ p', p <= p' ∧ p' <= p + n ∧ cs = m4 L p') ∧ R r
theorem a0c (n : Int) : I64 (IntKind.i64.wrap n) := by
 unfold I64
 rw [IntKind.wrap_i64]
 omega
theorem a8p {p q : Prop} (hp : p) (hq : p -> q) : p ∧ q := ⟨hp, hq hp⟩
theorem t7 {α β : Type} [Inhabited α] (f : α -> β) (l : List α) (i : Nat) (d : β) (h : i < l.length) : (l.map f).getD i d = f (l.getD i default) := by
 simp [List.getD_eq_getElem?_getD, h]
theorem f8 {α : Type} [Inhabited α] (l : List α) (i : Nat) (h : i < l.length) : l.getD i default ∈ l := by
 simp [List.getD_eq_getElem?_getD, h]
theorem a0i (n : Int) : N3 n = [.g (.int .i64 n)] := (rfl)
attribute [go_sem] t7 List.length_map a0i
variable {P : Program} {Q : AX -> AS -> Prop} {s : AS} {k : List KI} {kp : Option Keep} {l : List GI}
theorem u5 {f : FuncId} {args : List Val} {n : Nat} {R : Val -> Prop} {L : List Int} {p : Int} {key : Nat} {d : Option Nat} (h : Gen P f args n R) (hL : ∀ x ∈ L, I64 x) (hl : L.length <= 9223372036854775807) (h0 : 0 <= p) (hn : p + n <= 4611686018427387904)
  (hne : ∃ r, R r) (hk : ∀ p' r, p <= p' -> p' <= p + n -> R r -> M8 r = true ∧ rg P l kp k Q ({ s with bx := upd s.bx key (some (m4 L p')) }.put d r)) :
  b1j P f key (m4 L p) args d l kp k Q s := by
 obtain ⟨r0, hr0⟩ := hne
 refine ⟨_, h L p hL hl h0 hn, ⟨_, r0, ⟨p, Int.le_refl _, by omega, rfl⟩, hr0⟩, ?_⟩
 rintro cs r ⟨⟨p', h1, h2, rfl⟩, hr⟩
 obtain ⟨h3, h4⟩ := hk p' r h1 h2 hr
 exact ⟨h3, rfl, h4⟩
theorem o8 {α β : Type} [Inhabited α] (f : α -> β) (l : List α) (i : Nat) (h : i < l.length) : (l.map f)[i]? = some (f (l.getD i default)) := by
 simp [List.getD_eq_getElem?_getD, h]
attribute [go_sem] o8 Bool.not_eq_true' Bool.not_eq_false'
theorem j8 {a b : Int} (h : a = b) : Val.one (.g (.int .i64 a)) = iv b := by rw [h]
theorem Y9 {a b : Bool} (h : a = true ↔ b = true) : Val.one (.g (.bool a)) = bv b := by
 have : a = b := by cases a <;> cases b <;> simp_all
 rw [this]
theorem J7 {p q : Prop} [Decidable p] [Decidable q] (h : p ↔ q) : Val.one (.g (.bool (decide p))) = bv (decide q) := by simp [h]
theorem a0e {p q : Prop} [Decidable p] [Decidable q] (h : ¬p ↔ q) : Val.one (.g (.bool (!decide p))) = bv (decide q) := by simp [<- h]
theorem c7q {q : Prop} [Decidable q] (h : ¬q) : Val.one (.g (.bool false)) = bv (decide q) := by simp [h]
theorem c7p {q : Prop} [Decidable q] (h : q) : Val.one (.g (.bool true)) = bv (decide q) := by simp [h]
structure Smp where
 a : Int
 v : Int
 q : Int
 deriving Inhabited
def a6r (x : Smp) : List Cel := [.g (.int .i64 x.a), .g (.int .i64 x.v), .g (.int .i64 x.q)]
theorem Z8 (x : Smp) : a6r x = [.g (.int .i64 x.a), .g (.int .i64 x.v), .g (.int .i64 x.q)] := (rfl)
attribute [go_sem] Z8
def Smp.in64 (x : Smp) : Prop := I64 x.a ∧ I64 x.v ∧ I64 x.q
abbrev Z4 (fr : Bool) (l : List Smp) : Val := .one (.sl fr 3 (l.map a6r))
theorem a1h {α : Type} {f : α -> List Cel} (h : ∀ x, (f x).all o6 = true) (l : List α) : frE (l.map f) = true := by
 simp only [frE, List.all_eq_true, List.mem_map]
 rintro e ⟨x, _, rfl⟩
 exact List.all_eq_true.1 (h x)
theorem X6 {α : Type} {f : α -> List Cel} (h : ∀ x, (f x).map Cel.dat = f x) (l : List α) : F8 (l.map f) = l.map f := by simp [F8, Function.comp_def, h]
theorem X3 {α : Type} {f : α -> List Cel} (h : ∀ x, (f x).map Cel.tof = f x) (l : List α) : a0k (l.map f) = l.map f := by simp [a0k, Function.comp_def, h]
theorem J2 {es : List (List Cel)} {e : List Cel} {i : Nat} (h : frE es = true) (he : e.all o6 = true) : frE (es.set i e) = true := by
 simp only [frE, List.all_eq_true] at *
 intro x hx
 rcases List.mem_or_eq_of_mem_set hx with h1 | rfl
 ·exact h x h1
 ·exact he
theorem c6O (l : List Int) : frE (l.map N3) = true := a1h (fun _ => rfl) l
theorem b7n (l : List Int) : F8 (l.map N3) = l.map N3 := X6 (fun _ => rfl) l
theorem b7U (l : List Int) : a0k (l.map N3) = l.map N3 := X3 (fun _ => rfl) l
theorem a4h (l : List Smp) : frE (l.map a6r) = true := a1h (fun _ => rfl) l
theorem b6S (l : List Smp) : F8 (l.map a6r) = l.map a6r := X6 (fun _ => rfl) l
theorem b8y (l : List Smp) : a0k (l.map a6r) = l.map a6r := X3 (fun _ => rfl) l
attribute [go_sem] c6O b7n b7U a4h b6S b8y
end Go.Ai
namespace Go.Proofs.YtnlafmigfjlnnaaGreatDoor
open Go Go.Ai
abbrev c6W (x : Smp) : Val := .ag (a6r x)
abbrev d6w (f t : Int) : Val := .ag [.g (.int .i64 f), .g (.int .i64 t)]
def p9 (x : Smp) : Int := if x.a < 0 ∨ x.a > 345686399999 then 1 else if x.q < 0 ∨ x.q > 2 then 4 else if x.v < -1000000 ∨ x.v > 1000000 then 1 else if x.q = 2 ∧ x.v ≠ 0 then 3 else 0
def serGo : Option Smp -> List Smp -> Int
 | _, [] => 0
 | p, x :: t => if p9 x ≠ 0 then p9 x else if (match p with | none => false | some y => decide (x.a <= y.a)) then 7 else serGo (some x) t
def n6 (l : List Smp) : Int := if 5000 < l.length then 2 else serGo none l
def z8 (f t : Int) : Int := if f < 0 ∨ f > t ∨ t > 345686400000 then 1 else 0
theorem D4 (n lo hi : Int) : FC Tryz.prog 47 none [iv n, iv lo, iv hi] (fun _ r => r = bv (decide (n < lo ∨ n > hi))) := by
 refine fcE Tryz.func47 (aL [[0,1,2],[6]]) ?_
 refine qv ?_
 by_cases h : n < lo <;> simp [h]
theorem P0 (n : Int) : FC Tryz.prog 46 none [iv n] (fun _ r => r = bv (decide (0 <= n ∧ n <= 345686399999))) := by
 refine fcE Tryz.func46 (aL [[0],[2]]) ?_
 refine qc (D4 _ _ _) ?_
 refine qv ?_
 exact (Y9 (by first | (simp; done) | (simp; omega)))
theorem a2h (x : Smp) : FC Tryz.prog 162 none [c6W x] (fun _ r => r = iv (p9 x)) := by
 refine fcE Tryz.func162 (aM [1] [] [[1],[1,3]] ++ aL [[2]] ++ aM [1] [] [[1,8]] ++ aL [[2]] ++ aM [1] [] [[1,12]] ++ aL [[2],[16],[2],[2]]) ?_
 refine qc (P0 _) ?_
 refine qv ?_
 refine ⟨fun h1 => (j8 (by simp only [p9]; (repeat' split) <;> (first | omega | simp_all <;> omega))), fun h1 => ?_⟩
 refine m9 (D4 _ _ _) (.inl rfl) ?_
 refine qv ?_
 refine ⟨fun h2 => (j8 (by simp only [p9]; (repeat' split) <;> (first | omega | simp_all <;> omega))), fun h2 => ?_⟩
 refine m9 (D4 _ _ _) (.inl rfl) ?_
 refine qv ?_
 refine ⟨fun h3 => (j8 (by simp only [p9]; (repeat' split) <;> (first | omega | simp_all <;> omega))), fun h3 => ⟨fun h4 => ⟨fun h5 => (j8 (by simp only [p9]; (repeat' split) <;> (first | omega | simp_all <;> omega))), fun h5 => (j8 (by simp only [p9]; (repeat' split) <;> (first | omega | simp_all <;> omega)))⟩, fun h4 => (j8 (by simp only [p9]; (repeat' split) <;> (first | omega | simp_all <;> omega)))⟩⟩
theorem a1p {l : List Smp} (h : n6 l = 0) : l.length <= 5000 ∧ serGo none l = 0 := by
 unfold n6 at h; split at h
 ·omega
 ·exact ⟨by omega, h⟩
def prv (l : List Smp) (i : Nat) : Option Smp := if i = 0 then none else some (l.getD (i - 1) default)
theorem S4 (l : List Smp) (i : Nat) (h : i < l.length) : serGo (prv l i) (l.drop i) = if p9 (l.getD i default) ≠ 0 then p9 (l.getD i default) else if (0 < i ∧ (l.getD i default).a <= (l.getD (i - 1) default).a) then 7 else serGo (prv l (i + 1)) (l.drop (i + 1)) := by
 have e : l.drop i = l.getD i default :: l.drop (i + 1) := by
  rw [List.drop_eq_getElem_cons h]; simp [List.getD_eq_getElem?_getD, h]
 rw [e, serGo.eq_def]
 simp only []
 by_cases hi : i = 0
 ·subst hi; simp [prv]
 ·have : 0 < i := by omega
  simp [prv, hi, this]
def d2J (l : List Smp) (i : Int) : AS := ⟨m7 [(0, Z4 false l), (9, Z4 false l), (10, iv l.length), (11, iv i)], f7 [], f7 []⟩
theorem U0 (l : List Smp) (hl : l.length <= 4611686018427387904) : FC Tryz.prog 131 none [Z4 false l] (fun _ r => r = iv (n6 l)) := by
 refine fcE Tryz.func131 (aL [[0],[0,8],[2],[0,9,10,11],[0,9,10,11,12]] ++ aM [4] [] [[0,3,4,9,10,11],[0,3,4,5,9,10,11],[0,3,4,5,9,10,11,19]] ++ aL [[2],[0,9,10,11,33],[2],[0,9,10,11],[2]]) ?_
 refine qv ?_
 refine ⟨fun h => j8 (by unfold n6; rw [if_pos (by omega)]), fun h => ?_⟩
 refine a0S (d2J l) (fun i => 0 <= i ∧ i <= l.length ∧ serGo (prv l i.toNat) (l.drop i.toNat) = n6 l) (fun i => (l.length - i).toNat) 0 ⟨by omega, by omega, by unfold n6; rw [if_neg (by omega)]; rfl⟩ rfl ?_
 rintro i ⟨g1, g2, g3⟩
 unfold d2J
 refine qv ?_
 refine ⟨fun hi => a8p ⟨by omega, by omega⟩ fun _ => ?_, fun hi => ?_⟩
 ·have g4 := S4 l i.toNat (by omega)
  rw [g3] at g4
  rw [t7 a6r l i.toNat [] (by omega)]
  refine qc (a2h _) ?_
  refine qv ?_
  have e1 : (i - 1).toNat = i.toNat - 1 := by omega
  have e2 : (i + 1).toNat = i.toNat + 1 := by omega
  rw [e1]
  refine ⟨fun h1 => j8 (by rw [g4, if_pos h1]), fun h1 => ⟨fun h2 => ⟨⟨by omega, by omega⟩, fun h3 => j8 (by rw [g4, if_neg h1, if_pos ⟨by omega, h3⟩]), fun h3 => ⟨i + 1, ⟨by omega, by omega, ?_⟩, rfl, by omega⟩⟩, fun h2 => ⟨i + 1, ⟨by omega, by omega, ?_⟩, rfl, by omega⟩⟩⟩
  ·rw [g4, if_neg h1, if_neg (fun h => h3 h.2), e2]
  ·rw [g4, if_neg h1, if_neg (fun h => h2 (by omega)), e2]
 ·refine j8 ?_
  rw [<- g3, List.drop_eq_nil_of_le (by omega)]
  simp [serGo]
theorem b9O (n lo hi : Int) : FC Tryz.prog 57 none [iv n, iv lo, iv hi] (fun _ r => r = bv (decide (lo <= n ∧ n <= hi))) := by
 refine fcE Tryz.func57 (aL [[0,1,2],[6]]) ?_
 refine qv ?_
 (repeat' (first | apply And.intro | intro _)) <;> first | rfl | omega | exact j8 (by first | omega | ((try simp only []); (repeat' split) <;> (first | omega | (simp_all; done) | (simp_all; omega)))) | exact J7 (by first | omega | ((try simp only []); (repeat' split) <;> omega)) | exact a0e (by first | omega | ((try simp only []); (repeat' split) <;> omega)) | exact c7q (by first | omega | ((try simp only []); (repeat' split) <;> omega)) | exact c7p (by first | omega | ((try simp only []); (repeat' split) <;> omega))
theorem a6C (n : Int) : FC Tryz.prog 117 none [iv n] (fun _ r => r = bv (decide (0 <= n ∧ n <= 345686399999))) := by
 refine fcE Tryz.func117 (aL [[0],[2]]) ?_
 refine qc (b9O _ _ _) ?_
 exact qt
theorem a2d (x : Smp) : FC Tryz.prog 76 none [c6W x] (fun _ r => r = iv (p9 x)) := by
 refine fcE Tryz.func76 (aM [1] [] [[1],[1,3]] ++ aL [[2]] ++ aM [1] [] [[1,8]] ++ aL [[2]] ++ aM [1] [] [[1,13]] ++ aL [[2],[18],[2],[2]]) ?_
 refine qc (a6C _) ?_
 refine qv ?_
 refine ⟨fun h1 => (j8 (by simp only [p9]; (repeat' split) <;> (first | omega | simp_all <;> omega))), fun h1 => ?_⟩
 refine m9 (b9O _ _ _) (.inl rfl) ?_
 refine qv ?_
 refine ⟨fun h2 => (j8 (by simp only [p9]; (repeat' split) <;> (first | omega | simp_all <;> omega))), fun h2 => ?_⟩
 refine m9 (b9O _ _ _) (.inl rfl) ?_
 refine qv ?_
 refine ⟨fun h3 => (j8 (by simp only [p9]; (repeat' split) <;> (first | omega | simp_all <;> omega))), fun h3 => ⟨fun h4 => ⟨fun h5 => (j8 (by simp only [p9]; (repeat' split) <;> (first | omega | simp_all <;> omega))), fun h5 => (j8 (by simp only [p9]; (repeat' split) <;> (first | omega | simp_all <;> omega)))⟩, fun h4 => (j8 (by simp only [p9]; (repeat' split) <;> (first | omega | simp_all <;> omega)))⟩⟩
theorem a2g (l : List Smp) (hl : l.length <= 4611686018427387904) : FC Tryz.prog 39 none [Z4 false l] (fun _ r => r = iv (n6 l)) := by
 refine fcE Tryz.func39 (aL [[0],[0,8],[2],[0,9,10,11],[0,9,10,11,12]] ++ aM [4] [] [[0,3,4,9,10,11],[0,3,4,5,9,10,11],[0,3,4,5,9,10,11,19]] ++ aL [[2],[0,9,10,11,33],[2],[0,9,10,11],[2]]) ?_
 refine qv ?_
 refine ⟨fun h => j8 (by unfold n6; rw [if_pos (by omega)]), fun h => ?_⟩
 refine a0S (d2J l) (fun i => 0 <= i ∧ i <= l.length ∧ serGo (prv l i.toNat) (l.drop i.toNat) = n6 l) (fun i => (l.length - i).toNat) 0 ⟨by omega, by omega, by unfold n6; rw [if_neg (by omega)]; rfl⟩ rfl ?_
 rintro i ⟨g1, g2, g3⟩
 unfold d2J
 refine qv ?_
 refine ⟨fun hi => a8p ⟨by omega, by omega⟩ fun _ => ?_, fun hi => ?_⟩
 ·have g4 := S4 l i.toNat (by omega)
  rw [g3] at g4
  rw [t7 a6r l i.toNat [] (by omega)]
  refine qc (a2d _) ?_
  refine qv ?_
  have e1 : (i - 1).toNat = i.toNat - 1 := by omega
  have e2 : (i + 1).toNat = i.toNat + 1 := by omega
  rw [e1]
  refine ⟨fun h1 => j8 (by rw [g4, if_pos h1]), fun h1 => ⟨fun h2 => ⟨⟨by omega, by omega⟩, fun h3 => j8 (by rw [g4, if_neg h1, if_pos ⟨by omega, h3⟩]), fun h3 => ⟨i + 1, ⟨by omega, by omega, ?_⟩, rfl, by omega⟩⟩, fun h2 => ⟨i + 1, ⟨by omega, by omega, ?_⟩, rfl, by omega⟩⟩⟩
  ·rw [g4, if_neg h1, if_neg (fun h => h3 h.2), e2]
  ·rw [g4, if_neg h1, if_neg (fun h => h2 (by omega)), e2]
 ·refine j8 ?_
  rw [<- g3, List.drop_eq_nil_of_le (by omega)]
  simp [serGo]
theorem a2f (f t : Int) : FC Tryz.prog 17 none [d6w f t] (fun _ r => r = iv (z8 f t)) := by
 refine fcE Tryz.func17 (aM [1] [] [[1]] ++ aL [[13],[2],[2]]) ?_
 refine qc (b9O _ _ _) ?_
 refine qv ?_
 (repeat' (first | apply And.intro | intro _)) <;> first | rfl | omega | exact j8 (by first | omega | ((try simp only [z8]); (repeat' split) <;> (first | omega | (simp_all; done) | (simp_all; omega)))) | exact J7 (by first | omega | ((try simp only [z8]); (repeat' split) <;> omega)) | exact a0e (by first | omega | ((try simp only [z8]); (repeat' split) <;> omega)) | exact c7q (by first | omega | ((try simp only [z8]); (repeat' split) <;> omega)) | exact c7p (by first | omega | ((try simp only [z8]); (repeat' split) <;> omega))
theorem G0 (n lo hi : Int) : FC Tryz.prog 60 none [iv n, iv lo, iv hi] (fun _ r => r = bv (decide (lo <= n ∧ n <= hi))) := by
 refine fcE Tryz.func60 (aL [[0,1,2],[6]]) ?_
 refine qv ?_
 (repeat' (first | apply And.intro | intro _)) <;> first | rfl | omega | exact j8 (by first | omega | ((try simp only []); (repeat' split) <;> (first | omega | (simp_all; done) | (simp_all; omega)))) | exact J7 (by first | omega | ((try simp only []); (repeat' split) <;> omega)) | exact a0e (by first | omega | ((try simp only []); (repeat' split) <;> omega)) | exact c7q (by first | omega | ((try simp only []); (repeat' split) <;> omega)) | exact c7p (by first | omega | ((try simp only []); (repeat' split) <;> omega))
theorem D5 (n lo hi : Int) : FC Tryz.prog 21 none [iv n, iv lo, iv hi] (fun _ r => r = iv (if lo <= n ∧ n <= hi then 0 else 1)) := by
 refine fcE Tryz.func21 (aL [[0,1,2],[11],[6],[6]]) ?_
 refine qc (G0 _ _ _) ?_
 refine qv ?_
 (repeat' (first | apply And.intro | intro _)) <;> first | rfl | omega | exact j8 (by first | omega | ((try simp only []); (repeat' split) <;> (first | omega | (simp_all; done) | (simp_all; omega)))) | exact J7 (by first | omega | ((try simp only []); (repeat' split) <;> omega)) | exact a0e (by first | omega | ((try simp only []); (repeat' split) <;> omega)) | exact c7q (by first | omega | ((try simp only []); (repeat' split) <;> omega)) | exact c7p (by first | omega | ((try simp only []); (repeat' split) <;> omega))
end Go.Proofs.YtnlafmigfjlnnaaGreatDoor
namespace Go.Proofs.YtnlafmigfjlnnaaGreatDoor
open Go Go.Ai
theorem X5 {a b c d : Val} (h1 : a = c) (h2 : b = d) : Val.tu [a, b] = .tu [c, d] := by rw [h1, h2]
def S8 (x : Smp) : Prop := 0 <= x.a ∧ x.a <= 345686399999 ∧ -1000000 <= x.v ∧ x.v <= 1000000 ∧ 0 <= x.q ∧ x.q <= 2
theorem a3S {x : Smp} (h : p9 x = 0) : S8 x ∧ (x.q = 2 -> x.v = 0) := by
 unfold p9 at h; unfold S8
 (repeat' split at h) <;> (first | omega | (refine ⟨by omega, fun h' => by simp_all⟩))
def c1G (at_ : Int) : List Smp -> Int -> Int -> Int
 | [], _, k => k
 | x :: t, i, k => c1G at_ t (i + 1) (if x.a <= at_ then i else k)
def d6r (l : List Smp) (at_ : Int) : Int := c1G at_ l 0 (-1)
theorem m5 {α : Type} [Inhabited α] (l : List α) (i : Nat) (h : i < l.length) : l.drop i = l.getD i default :: l.drop (i + 1) := by
 rw [List.drop_eq_getElem_cons h]; simp [List.getD_eq_getElem?_getD, h]
structure Good (l : List Smp) : Prop where
 len : l.length <= 5000
 ok : ∀ i, i < l.length -> S8 (l.getD i default)
 bad : ∀ i, i < l.length -> (l.getD i default).q = 2 -> (l.getD i default).v = 0
 up : ∀ i j, i < j -> j < l.length -> (l.getD i default).a < (l.getD j default).a
theorem b2s {l : List Smp} (h : n6 l = 0) : Good l := by
 obtain ⟨h1, h2⟩ := a1p h
 have h3 : ∀ i, i <= l.length -> serGo (prv l i) (l.drop i) = 0 := by
  intro i
  induction i with
  | zero => intro _; simpa [prv] using h2
  | succ i ih =>
   intro hi
   have := ih (by omega)
   rw [S4 l i (by omega)] at this
   split at this
   ·contradiction
   ·split at this
    ·omega
    ·exact this
 have h4 : ∀ i, i < l.length -> p9 (l.getD i default) = 0 ∧ (0 < i -> (l.getD (i - 1) default).a < (l.getD i default).a) := by
  intro i hi
  have := h3 i (by omega)
  rw [S4 l i hi] at this
  split at this
  ·contradiction
  ·rename_i h5
   split at this
   ·omega
   ·rename_i h6
    exact ⟨by omega, fun h7 => by
     have := fun h8 => h6 ⟨h7, h8⟩
     omega⟩
 refine ⟨h1, fun i hi => (a3S (h4 i hi).1).1, fun i hi => (a3S (h4 i hi).1).2, fun i j hij => ?_⟩
 induction j with
 | zero => omega
 | succ j ih =>
  intro hj
  have h5 := (h4 (j + 1) hj).2 (by omega)
  by_cases e : i = j
  ·subst e; exact h5
  ·have h6 := ih (by omega) (by omega)
   simp only [Nat.add_sub_cancel] at h5
   omega
theorem Good.le {l : List Smp} (h : Good l) (i j : Nat) (hij : i <= j) (hj : j < l.length) : (l.getD i default).a <= (l.getD j default).a := by
 by_cases e : i = j
 ·subst e; omega
 ·have := h.up i j (by omega) hj; omega
structure Pt where
 a : Int
 n : Int
 d : Int
 q : Int
 deriving Inhabited
def ptC (x : Pt) : List Cel := [.g (.int .i64 x.a), .g (.int .i64 x.n), .g (.int .i64 x.d), .g (.int .i64 x.q)]
theorem d0o (x : Pt) : ptC x = [.g (.int .i64 x.a), .g (.int .i64 x.n), .g (.int .i64 x.d), .g (.int .i64 x.q)] := (rfl)
theorem c7R (l : List Pt) : frE (l.map ptC) = true := a1h (fun _ => rfl) l
theorem c6K (l : List Pt) : F8 (l.map ptC) = l.map ptC := X6 (fun _ => rfl) l
theorem c4a (l : List Pt) : a0k (l.map ptC) = l.map ptC := X3 (fun _ => rfl) l
attribute [go_sem] d0o c7R c6K c4a
def ptZ : Pt := ⟨0, 0, 0, 0⟩
theorem d4s : ptZ.a = 0 := (rfl)
theorem d3t : ptZ.n = 0 := (rfl)
theorem d3k : ptZ.d = 0 := (rfl)
theorem d4F : ptZ.q = 0 := (rfl)
attribute [go_sem] d4s d3t d3k d4F
end Go.Proofs.YtnlafmigfjlnnaaGreatDoor
namespace Go.Proofs.YtnlafmigfjlnnaaGreatDoor
open Go Go.Ai
def a4S : List Ann := (aM [0] [] [[0,1],[0,1],[0,1,19],[4],[0,1,5],[0,1,5,6],[4]])
def b0B : List Ann := (aM [0] [] [[0,1,2],[0,1,2,9],[6],[6]])
def a5F : List Ann := (aM [0] [] [[0,1],[4]])
def a5K : List Ann := (aM [0] [] [[0,1],[4]])
def b8E : List Ann := (aM [0] [] [[0,1,2],[0,1,2,8],[6],[6]])
theorem R9 (x n : Int) (h1 : 1 <= n) (hn : n <= 9223372036854775807) (hx : I64 x) : FC Tryz.prog 70 none [iv x, iv n] (fun _ r => r = iv (x % n)) := by
 refine fcE Tryz.func70 (aL [[0,1],[0,1,6],[4],[0,1],[0,1,11],[0],[4]]) ?_
 obtain ⟨hx1, hx2⟩ := hx
 refine qv ?_
 have e1 : x.tmod n = if 0 <= x then x % n else if n ∣ x then 0 else x % n - n := by
  rw [Int.tmod_eq_emod]
  by_cases h3 : 0 <= x
  ·simp [h3]
  ·by_cases h4 : n ∣ x
   ·simp [h4, Int.emod_eq_zero_of_dvd h4]
   ·simp only [h3, h4, or_self, if_false]; omega
 have e2 := Int.emod_nonneg x (show n ≠ 0 by omega)
 have e3 := Int.emod_lt_of_pos x (show 0 < n by omega)
 have e4 : n ∣ x -> x % n = 0 := fun h => Int.emod_eq_zero_of_dvd h
 refine ⟨fun h => ?_, fun h => ?_⟩
 ·rw [e1] at h ⊢
  split at h
  ·omega
  ·rename_i h3
   rw [if_neg h3]
   split at h
   ·omega
   ·rename_i h4
    rw [if_neg h4, wrap_i64 _ (by omega) (by omega)]
    show iv _ = iv _
    congr 4
    omega
 ·rw [e1] at h ⊢
  split at h
  ·rename_i h3; rw [if_pos h3]
  ·rename_i h3
   rw [if_neg h3]
   split at h
   ·rename_i h4; rw [if_pos h4, e4 h4]
   ·omega
theorem b5j (n : Int) (h1 : 1 <= n) (hn : n <= 9223372036854775807) : Gen Tryz.prog 33 [iv n] 1 (fun r => ∃ x, 0 <= x ∧ x < n ∧ r = iv x) := by
 intro L p hL hl h0 hp
 refine fcE Tryz.func33 a4S ?_
 have e0 : ∀ x, 0 <= x % n ∧ x % n < n := fun x => ⟨Int.emod_nonneg x (by omega), Int.emod_lt_of_pos x (by omega)⟩
 unfold m4
 refine qv ?_
 refine ⟨fun h => ?_, fun h => ?_⟩
 ·refine m9 (R9 _ n h1 hn (a0c _)) (.inl rfl) ?_
  refine qv ?_
  exact ⟨⟨p + 1, by omega, by omega, rfl⟩, _, (e0 _).1, (e0 _).2, rfl⟩
 ·have h3 : 0 < (L.length : Int) := by omega
  have h4 : (p + 1 - 1).tmod (L.length : Int) = (p + 1 - 1) % (L.length : Int) := Int.tmod_eq_emod_of_nonneg (by omega)
  have h5 := Int.emod_nonneg (p + 1 - 1) (show (L.length : Int) ≠ 0 by omega)
  have h6 := Int.emod_lt_of_pos (p + 1 - 1) h3
  rw [h4]
  refine ⟨h, h, ⟨by omega, by omega⟩, ?_⟩
  refine qv ?_
  refine m9 (R9 _ 1073741824 (by omega) (by omega) (hL _ (f8 _ _ (by omega)))) (.inl rfl) ?_
  refine qc (R9 _ n h1 hn (a0c _)) ?_
  refine qv ?_
  exact ⟨⟨p + 1, by omega, by omega, rfl⟩, _, (e0 _).1, (e0 _).2, rfl⟩
theorem c3R (n : Int) (h1 : 1 <= n) (hn : n <= 9223372036854775807) : Gen Tryz.prog 32 [iv n] 1 (fun r => ∃ b, r = bv b) := by
 intro L p hL hl h0 hp
 refine fcE Tryz.func32 a5F ?_
 unfold m4
 refine qv ?_
 refine u5 (b5j n h1 hn) hL hl h0 hp ⟨_, 0, by omega, by omega, rfl⟩ ?_
 rintro p' r h4 h5 ⟨x, h6, h7, rfl⟩
 refine ⟨rfl, ?_⟩
 unfold m4
 refine qv ?_
 exact ⟨⟨p', by omega, by omega, rfl⟩, _, rfl⟩
theorem Q7 (fr : Bool) (l : List Int) (h1 : 0 < l.length) (h2 : l.length <= 9223372036854775807) : Gen Tryz.prog 9 [W0 fr l] 1 (fun r => ∃ x ∈ l, r = iv x) := by
 intro L p hL hl h0 hp
 refine fcE Tryz.func9 a5K ?_
 unfold m4
 refine qv ?_
 refine u5 (b5j l.length (by omega) (by omega)) hL hl h0 hp ⟨_, 0, by omega, by omega, rfl⟩ ?_
 rintro p' r h4 h5 ⟨x, h6, h7, rfl⟩
 refine ⟨rfl, ?_⟩
 unfold m4
 refine qv ?_
 exact ⟨⟨p', by omega, by omega, rfl⟩, _, f8 _ _ (by omega), rfl⟩
end Go.Proofs.YtnlafmigfjlnnaaGreatDoor
namespace Go.Proofs.YtnlafmigfjlnnaaGreatDoor
open Go Go.Ai
def b0e : List Ann := ([aN [0,1] [0] [],⟨(kP [0,1,5] [0] []),[(5,122,3)],[],[],[]⟩] ++ aM [0] [5] [[0,1,5,6,7],[0,5,6,7,18,19],[0,5,6,7,18,19,20]] ++ aM [0,8] [5] [[0,5,6,7,8,18,19],[0,5,6,7,8,18,19,29],[0,5,6,7,8,18,19]] ++ aM [0] [5] [[0,5,6,7,18,19],[0,5,6,7,18,19],[0,5,6,7,18,19],[0,5,6,7,18,19],[0,5,52],[0,5,9],[0,5,9,60],[0,5,9,60,66]] ++ [aN [5] [0] [],aN [0,5,9,84] [0] [5]] ++ aM [0] [] [[5],[5],[4]])
theorem b0O : Gen Tryz.prog 7 [] 2 (fun r => ∃ x, I64 x ∧ r = iv x) := by
 intro L p hL hl h0 hp
 refine fcE Tryz.func7 (aM [0] [] [[0],[2]]) ?_
 unfold m4
 refine qv ?_
 refine u5 (Q7 false [-1, 345686400000] (by simp) (by simp)) hL hl h0 (by omega) ⟨_, -1, by simp, rfl⟩ ?_
 rintro p' r h4 h5 ⟨x, hx, rfl⟩
 refine ⟨rfl, ?_⟩
 unfold m4
 refine qv ?_
 refine u5 (Q7 false [0, 1, 5, 12, 40, 41, 60, 100, 200, x] (by simp) (by simp)) hL hl (by omega) (by omega) ⟨_, 0, by simp, rfl⟩ ?_
 rintro p'' r h6 h7 ⟨y, hy, rfl⟩
 refine ⟨rfl, ?_⟩
 unfold m4
 refine qv ?_
 refine ⟨⟨p'', by omega, by omega, rfl⟩, _, ?_, rfl⟩
 simp only [List.mem_cons, List.not_mem_nil, or_false] at hx hy
 unfold I64; omega
theorem b6m : Gen Tryz.prog 8 [] 5 (fun r => ∃ x y, I64 x ∧ I64 y ∧ r = .ag [.g (.int .i64 x), .g (.int .i64 y)]) := by
 intro L p hL hl h0 hp
 refine fcE Tryz.func8 (aM [0,2] [] [[0,2],[0,2,3]] ++ aM [0,2,4] [] [[0,2,4],[0,2,4,16]] ++ [⟨(kP [2,4] [0,2,4] []),[],[(4,(some 0)),(6,(some 4)),(7,(some 4)),(9,(some 0)),(10,(some 4))],[],[]⟩] ++ aM [0,2] [] [[2]]) ?_
 unfold m4
 refine qv ?_
 refine u5 (Q7 false [0, 1, 5, 12, 40, 60] (by simp) (by simp)) hL hl h0 (by omega) ⟨_, 0, by simp, rfl⟩ ?_
 rintro p1 r h1 h2 ⟨x, hx, rfl⟩
 refine ⟨rfl, ?_⟩
 unfold m4
 simp only [List.mem_cons, List.not_mem_nil, or_false] at hx
 refine qv ?_
 refine u5 (Q7 false [0, 1, 7, 20, 50, 200] (by simp) (by simp)) hL hl (by omega) (by omega) ⟨_, 0, by simp, rfl⟩ ?_
 rintro p2 r h3 h4 ⟨y, hy, rfl⟩
 refine ⟨rfl, ?_⟩
 unfold m4
 simp only [List.mem_cons, List.not_mem_nil, or_false] at hy
 refine qv ?_
 refine u5 (c3R 12 (by omega) (by omega)) hL hl (by omega) (by omega) ⟨_, true, rfl⟩ ?_
 rintro p3 r h5 h6 ⟨b, rfl⟩
 refine ⟨rfl, ?_⟩
 unfold m4
 refine qv ?_
 refine ⟨fun _ => ?_, fun _ => ?_⟩
 ·refine u5 (Q7 false [x, -1, 90] (by simp) (by simp)) hL hl (by omega) (by omega) ⟨_, x, by simp, rfl⟩ ?_
  rintro p4 r h7 h8 ⟨z, hz, rfl⟩
  refine ⟨rfl, ?_⟩
  unfold m4
  simp only [List.mem_cons, List.not_mem_nil, or_false] at hz
  refine qv ?_
  refine u5 (Q7 false [x + y, 345686400000, 345686400001] (by simp) (by simp)) hL hl (by omega) (by omega) ⟨_, x + y, by simp, rfl⟩ ?_
  rintro p5 r h9 h10 ⟨u, hu, rfl⟩
  refine ⟨rfl, ?_⟩
  unfold m4
  simp only [List.mem_cons, List.not_mem_nil, or_false] at hu
  refine qv ?_
  exact ⟨⟨p5, by omega, by omega, rfl⟩, _, _, by unfold I64; omega, by unfold I64; omega, rfl⟩
 ·exact ⟨⟨p3, by omega, by omega, rfl⟩, _, _, by unfold I64; omega, by unfold I64; omega, rfl⟩
structure c8q where
 i : Int
 a : Int
 v : Int
 p : Int
 l : List Smp
def a3c (L : List Int) (n : Int) (x : c8q) : AS :=
 ⟨m7 [(0, .one (.bx 0 0)), (5, .one (.ow 5 0)), (6, iv x.a), (7, iv x.v), (18, iv n), (19, iv x.i)], f7 [(0, m4 L x.p)], f7 [(5, ⟨0, 122, 3, x.l.map a6r⟩)]⟩
end Go.Proofs.YtnlafmigfjlnnaaGreatDoor

/- Chattering. -/
import Derived.Test.YtnlafmigfjlnnaaGreatDoorSfp
set_option linter.all false
set_option maxHeartbeats 0
set_option maxRecDepth 100000
namespace Go.Proofs.YtnlafmigfjlnnaaGreatDoor
open Go Go.Ai
def a4G : List Ann := (aM [7] [] [[0,1,3,4,7],[0,1,3,4,7,12],[0,1,3,4,7,12,28]] ++ [⟨(kP [10,11] [] []),[],[],[(10,1)],[]⟩,⟨(kP [0,1,3,4,7,13] [7] []),[(13,9,1)],[],[],[]⟩,aN [1,3,4,7,13,30,31,32] [7] [13],aN [1,3,4,7,13,30,31,32,33] [7] [13]] ++ aM [7,15] [13] [[1,3,4,7,13,15,30,31,32],[1,3,4,7,13,15,16,30,31,32],[1,3,4,7,13,15,16,17,30,31,32],[1,3,4,7,13,15,16,17,30,31,32,45],[1,3,4,7,13,15,16,17,30,31,32,61]] ++ [aN [1,3,4,7,13,30,31,32] [7] [13],aN [1,3,4,7,13,15,16,17,30,31,32] [7,15] [13],aN [1,3,4,7,13,30,31,32] [7] [13],aN [10,11] [] []])
theorem d1t {P : Program} {f : FuncId} {ext : Option (List Cel)} {args args' : List Val} {R : List Cel -> Val -> Prop} (h : FC P f ext args' R) (hl : args'.length = args.length)
  (ha : ∀ (i : Nat) (x y : Val), args[i]? = some x -> args'[i]? = some y -> x = y ∨ (x = .one (.g (.slice none 0 0)) ∧ ∃ fr z, y = .one (.sl fr z []))) : FC P f ext args R := by
 refine ⟨h.1, fun w okA g vs htab he hlen hv => h.2 w okA g vs htab he (by omega) fun i y u hy hu => ?_⟩
 have hi : i < args.length := by have := (List.getElem?_eq_some_iff.1 hy).1; omega
 have hx := hv i _ u (List.getElem?_eq_getElem hi) hu
 rcases ha i _ y (List.getElem?_eq_getElem hi) hy with rfl | ⟨hx', fr, z, rfl⟩
 ·exact hx
 ·rw [hx'] at hx
  cases hx with
  | one hx => obtain ⟨rfl, _⟩ := hx; exact .one .nil
theorem a6K {α : Type} {P : List α -> Prop} (h0 : P []) (h1 : ∀ l a, P l -> P (l ++ [a])) (l : List α) : P l := by
 have key : ∀ r : List α, P r.reverse := fun r => by
  induction r with
  | nil => exact h0
  | cons a r ih => rw [List.reverse_cons]; exact h1 _ _ ih
 have := key l.reverse
 rwa [List.reverse_reverse] at this
def stA (w : List (Int × Int)) (f t : Int) : List Int := (w.map (·.1)).filter fun a => decide (f <= a ∧ a < t)
theorem a7U (w : List (Int × Int)) (x : Int × Int) (f t : Int) : stA (w ++ [x]) f t = stA w f t ++ (if f <= x.1 ∧ x.1 < t then [x.1] else []) := by
 unfold stA
 rw [List.map_append, List.filter_append]
 congr 1
 by_cases h : f <= x.1 ∧ x.1 < t <;> simp [h]
theorem U4 (w : List (Int × Int)) (f t : Int) : (stA w f t).length <= w.length := by
 unfold stA
 refine Nat.le_trans (List.length_filter_le _ _) ?_
 simp
structure AlR (s : List Ser) (x : Alm) : Prop where
 a : (-1000000 <= x.lim ∧ x.lim <= 1000000) ∧ (0 <= x.db ∧ x.db <= 2000000) ∧ (0 <= x.on ∧ x.on <= 86400000) ∧ (0 <= x.off ∧ x.off <= 86400000)
 so : a2o s
 w : (m8 s x).length <= 1000
 b : ∀ v ∈ m8 s x, 0 <= v.1 ∧ v.1 <= v.2 ∧ v.2 <= 345686400000
theorem AlR.sam {s : List Ser} {x : Alm} (h : AlR s x) : ∃ fr, FC Tryz.prog 52 none [B1 false s, sv x.t] (fun _ r => r = Z4 fr (a1J s x.t)) := by
 have hs := h.so.len
 have hsa := a2H x.t s (by omega) h.so.up
 obtain ⟨fr, hfr⟩ : ∃ fr, c7l s x.t = Z4 fr (a1J s x.t) := by
  unfold c7l a1J
  split
  ·exact ⟨false, rfl⟩
  ·exact ⟨true, rfl⟩
 rw [hfr] at hsa
 exact ⟨fr, hsa⟩
theorem AlR.act {s : List Ser} {x : Alm} (h : AlR s x) : FC Tryz.prog 51 none [.ag (D0 x), Z4 false (a1J s x.t), iv 345686400000] (fun _ r => r = a0C true (m8 s x)) :=
 a5L x.k x.t x.p x.lt x.kd x.lim x.db x.on x.off x.pr 345686400000 (a1J s x.t) (P1 h.so _) h.a.1 h.a.2.1 h.a.2.2.1 h.a.2.2.2
theorem AlR.actR {s : List Ser} {x : Alm} (h : AlR s x) : FC Tryz.prog 65 none [.ag (D0 x), Z4 false (a1J s x.t), iv 345686400000] (fun _ r => r = a0C true (m8 s x)) :=
 a1f x.k x.t x.p x.lt x.kd x.lim x.db x.on x.off x.pr 345686400000 (a1J s x.t) (P1 h.so _) h.a.1 h.a.2.1 h.a.2.2.1 h.a.2.2.2 (by omega)
def a9I (f t : Int) (w : List (Int × Int)) (j : Int) (o : List Int) : AS := ⟨m7 [(5, .one (.bx 5 0)), (7, .one (.ow 7 0)), (15, a0C true w), (16, iv w.length), (17, iv j)], f7 [(5, [.g (.int .i64 f), .g (.int .i64 t)])], f7 [(7, a2j o)]⟩
abbrev wV (f t : Int) : Val := .ag [.g (.int .i64 f), .g (.int .i64 t)]
theorem a4T {s : List Ser} {x : Alm} (h : AlR s x) (f t : Int) :
  FC Tryz.prog 43 none [.ag (D0 x), B1 false s, wV f t] (fun _ r => r = W0 true (stA (m8 s x) f t)) := by
 refine fcE Tryz.func43 (aM [3,5] [] [[1,3,5]] ++ [⟨(kP [1,3,5,7] [3,5] []),[(7,3,1)],[],[],[]⟩] ++ aM [5] [7] [[5,7,15,16,17],[5,7,15,16,17,18]] ++ aM [5,9] [7] [[5,7,9,15,16,17],[5,7,9,15,16,17,24]] ++ aM [5] [7] [[5,7,15,16,17],[5,7,15,16,17]] ++ aL [[6]]) ?_
 obtain ⟨fr, hsa⟩ := h.sam
 have hac := h.act
 have hw := h.w
 have hb := h.b
 rw [j9] at hac
 simp only [j9]
 refine qv ?_
 refine m9 hsa (.inr ⟨rfl, rfl⟩) ?_
 refine qc hac ?_
 refine qv ?_
 clear hac hsa h
 generalize m8 s x = w at *
 refine j7 (a9I f t w) (fun j o => 0 <= j ∧ j <= w.length ∧ o = stA (w.take j.toNat) f t) (fun j _ => (w.length - j).toNat) 0 [] ⟨by omega, by omega, by simp [stA]⟩ rfl ?_
 rintro j o ⟨j0, j1, j2⟩
 unfold a9I
 by_cases hj : j < w.length
 ·have ej := e8 frC w j [] j0 hj
  have hl2 : o.length <= w.length := by rw [j2]; refine Nat.le_trans (U4 _ _ _) ?_; rw [List.length_take]; omega
  have hsn := a7U (w.take j.toNat) (w.getD j.toNat default) f t
  rw [<- n4 w j j0 hj, <- j2] at hsn
  have hin := c8I f t (w.getD j.toNat default).1
  by_cases hb : f <= (w.getD j.toNat default).1 ∧ (w.getD j.toNat default).1 < t
  ·rw [if_pos hb] at hsn
   rw [decide_eq_true hb] at hin
   refine qc hin ?_
   refine qv ?_
   exact ⟨j + 1, o ++ [(w.getD j.toNat default).1], by simp [a9I, a2j, N3], ⟨by omega, by omega, hsn.symm⟩, by omega⟩
  ·rw [if_neg hb, List.append_nil] at hsn
   rw [decide_eq_false hb] at hin
   refine qc hin ?_
   refine qv ?_
   exact ⟨j + 1, o, rfl, ⟨by omega, by omega, hsn.symm⟩, by omega⟩
 ·refine qv ?_
  rw [j2, show j.toNat = w.length by omega, List.take_length]
theorem T9 {s : List Ser} {x : Alm} (h : AlR s x) (f t : Int) (ht : -4611686018427387904 <= t) (ht2 : t <= 4611686018427387904) :
  FC Tryz.prog 63 none [.ag (D0 x), B1 false s, wV f t] (fun _ r => r = W0 true (stA (m8 s x) f t)) := by
 refine fcE Tryz.func63 (aM [3,5] [] [[1,3,5]] ++ [⟨(kP [1,3,5,7] [3,5] []),[(7,3,1)],[],[],[]⟩] ++ aM [5] [7] [[5,7,15,16,17],[5,7,15,16,17,18]] ++ aM [5,9] [7] [[5,7,9,15,16,17],[5,7,9,15,16,17,28]] ++ aM [5] [7] [[5,7,15,16,17],[5,7,15,16,17]] ++ aL [[6]]) ?_
 have hs := h.so.len
 have hsa := a3J s x.t (by omega)
 have hac := h.actR
 have hw := h.w
 have hb := h.b
 rw [j9] at hac
 simp only [j9]
 refine qv ?_
 refine ⟨_, hsa, ⟨[], _, true, rfl⟩, ?_⟩
 rintro cs r ⟨fr, rfl⟩
 refine ⟨.inr ⟨rfl, rfl⟩, ?_⟩
 refine qc hac ?_
 refine qv ?_
 clear hac hsa h
 generalize m8 s x = w at *
 refine j7 (a9I f t w) (fun j o => 0 <= j ∧ j <= w.length ∧ o = stA (w.take j.toNat) f t) (fun j _ => (w.length - j).toNat) 0 [] ⟨by omega, by omega, by simp [stA]⟩ rfl ?_
 rintro j o ⟨j0, j1, j2⟩
 unfold a9I
 by_cases hj : j < w.length
 ·have ej := e8 frC w j [] j0 hj
  have hl2 : o.length <= w.length := by rw [j2]; refine Nat.le_trans (U4 _ _ _) ?_; rw [List.length_take]; omega
  have hsn := a7U (w.take j.toNat) (w.getD j.toNat default) f t
  rw [<- n4 w j j0 hj, <- j2] at hsn
  have hin := G0 (w.getD j.toNat default).1 f (t - 1)
  by_cases hb : f <= (w.getD j.toNat default).1 ∧ (w.getD j.toNat default).1 < t
  ·rw [if_pos hb] at hsn
   rw [decide_eq_true (show f <= (w.getD j.toNat default).1 ∧ (w.getD j.toNat default).1 <= t - 1 by omega)] at hin
   refine qc hin ?_
   refine qv ?_
   exact ⟨j + 1, o ++ [(w.getD j.toNat default).1], by simp [a9I, a2j, N3], ⟨by omega, by omega, hsn.symm⟩, by omega⟩
  ·rw [if_neg hb, List.append_nil] at hsn
   rw [decide_eq_false (show ¬(f <= (w.getD j.toNat default).1 ∧ (w.getD j.toNat default).1 <= t - 1) by omega)] at hin
   refine qc hin ?_
   refine qv ?_
   exact ⟨j + 1, o, rfl, ⟨by omega, by omega, hsn.symm⟩, by omega⟩
 ·refine qv ?_
  rw [j2, show j.toNat = w.length by omega, List.take_length]
/-! ### many and long -/
def maF (m n : Int) : Int := if (1 <= m ∧ m <= 5000) ∧ (1 <= n ∧ n <= 604800000) then 0 else 1
theorem J5 (m n : Int) : FC Tryz.prog 42 none [iv m, iv n] (fun _ r => r = iv (maF m n)) := by
 refine fcE Tryz.func42 (aL [[0,1],[10],[4],[4]]) ?_
 unfold maF
 have h1 := D4 m 1 5000
 have h2 := D4 n 1 604800000
 by_cases c1 : 1 <= m ∧ m <= 5000
 ·rw [decide_eq_false (by omega)] at h1
  by_cases c2 : 1 <= n ∧ n <= 604800000
  ·rw [decide_eq_false (by omega)] at h2
   rw [if_pos ⟨c1, c2⟩]
   refine qc h1 ?_
   refine qc h2 ?_
   exact qt
  ·rw [decide_eq_true (by omega)] at h2
   rw [if_neg (by omega)]
   refine qc h1 ?_
   refine qc h2 ?_
   exact qt
 ·rw [decide_eq_true (by omega)] at h1
  rw [if_neg (by omega)]
  refine qc h1 ?_
  exact qt
theorem b6q (m n : Int) : FC Tryz.prog 18 none [iv m, iv n] (fun _ r => r = iv (maF m n)) := by
 refine fcE Tryz.func18 (aL [[0,1],[4]]) ?_
 have h1 := D5 m 1 5000
 have h2 := D5 n 1 604800000
 have h3 : FC Tryz.prog 10 none [W0 false [if 1 <= m ∧ m <= 5000 then 0 else 1, if 1 <= n ∧ n <= 604800000 then 0 else 1]] (fun _ r => r = iv (maF m n)) := by
  have := a5z false [if 1 <= m ∧ m <= 5000 then 0 else 1, if 1 <= n ∧ n <= 604800000 then 0 else 1] (by simp)
  rw [a2b] at this
  rw [show maF m n = if (if 1 <= m ∧ m <= 5000 then (0 : Int) else 1) ≠ 0 then (if 1 <= m ∧ m <= 5000 then 0 else 1) else if 1 <= n ∧ n <= 604800000 then 0 else 1 by unfold maF; (repeat' split) <;> omega]
  exact this
 generalize (if 1 <= m ∧ m <= 5000 then (0 : Int) else 1) = a at *
 generalize (if 1 <= n ∧ n <= 604800000 then (0 : Int) else 1) = b at *
 refine qc h1 ?_
 refine qc h2 ?_
 refine qc h3 ?_
 exact qt
/-! ### so many within so long -/
def b7y (a : List Int) (m n : Int) (j : Nat) : Bool := decide ((j : Int) + m <= a.length ∧ a.getD (j + m.toNat - 1) default - a.getD j default < n)
def chB (a : List Int) (m n : Int) : Bool := (List.range a.length).any (b7y a m n)
theorem a8y {a : List Int} {m n : Int} (hm : 1 <= m) {j : Nat} (h : b7y a m n j = true) : chB a m n = true :=
 List.any_eq_true.2 ⟨j, by rw [List.mem_range]; have := of_decide_eq_true h; omega, h⟩
theorem a5I {a : List Int} {m n : Int} (h : ∀ j : Nat, b7y a m n j = false) : chB a m n = false :=
 Bool.eq_false_iff.2 fun h1 => by
  obtain ⟨j, _, h2⟩ := List.any_eq_true.1 h1
  rw [h j] at h2; cases h2
def chL (s : List Ser) (f t m n : Int) : List Alm -> List ByteArray
 | [] => []
 | x :: r => (if chB (stA (m8 s x) f t) m n = true then [x.k] else []) ++ chL s f t m n r
theorem a3L (s : List Ser) (f t m n : Int) (x : Alm) : ∀ l : List Alm, chL s f t m n (l ++ [x]) = chL s f t m n l ++ (if chB (stA (m8 s x) f t) m n = true then [x.k] else [])
 | [] => by simp [chL]
 | y :: l => by rw [List.cons_append, chL, a3L s f t m n x l, chL, List.append_assoc]
theorem a3T (s : List Ser) (f t m n : Int) : ∀ l : List Alm, (chL s f t m n l).length <= l.length
 | [] => by simp [chL]
 | y :: l => by
  rw [chL, List.length_append, List.length_cons]
  have := a3T s f t m n l
  split <;> simp <;> omega
abbrev a2K (k : ByteArray) : List Cel := [.g (.string k)]
abbrev T7 (l : List ByteArray) : Row := ⟨0, 9, 1, l.map a2K⟩
abbrev c0O (l : List ByteArray) : Val := .one (.sl true 1 (l.map a2K))
theorem c2K (l : List ByteArray) : frE (l.map a2K) = true := a0o (fun _ => rfl) l
theorem b8I (l : List ByteArray) : a0k (l.map a2K) = l.map a2K := V7 (fun _ => rfl) l
theorem b9q (l : List ByteArray) : F8 (l.map a2K) = l.map a2K := U7 (fun _ => rfl) l
attribute [go_sem] c2K b8I b9q
theorem b3c {w : List (Int × Int)} {f t n : Int} (h : n ∈ stA w f t) : ∃ v ∈ w, v.1 = n := by
 obtain ⟨h1, _⟩ := List.mem_filter.1 h
 obtain ⟨v, h2, h3⟩ := List.mem_map.1 h1
 exact ⟨v, h2, h3⟩
theorem AlR.st {s : List Ser} {x : Alm} (h : AlR s x) (f t : Int) : ∀ i : Nat, i < (stA (m8 s x) f t).length -> 0 <= (stA (m8 s x) f t).getD i default ∧ (stA (m8 s x) f t).getD i default <= 345686400000 := fun i hi => by
 obtain ⟨v, h1, h2⟩ := b3c (f8 _ i hi)
 have := h.b v h1
 omega
def c4s (l : List Alm) (s : List Ser) (f t m n : Int) (i : Int) (o : List ByteArray) : AS := ⟨m7 [(1, B1 false s), (3, iv m), (4, iv n), (7, .one (.bx 7 0)), (13, .one (.ow 13 0)), (30, r6 false l), (31, iv l.length), (32, iv i)], f7 [(7, [.g (.int .i64 f), .g (.int .i64 t)])], f7 [(13, T7 o)]⟩
def b8K (l : List Alm) (s : List Ser) (f t m n : Int) (i : Int) (o : List ByteArray) (x : Alm) (A : List Int) (k : Int) : AS := ⟨m7 [(1, B1 false s), (3, iv m), (4, iv n), (7, .one (.bx 7 0)), (13, .one (.ow 13 0)), (15, .one (.bx 15 0)), (16, W0 true A), (17, iv k), (30, r6 false l), (31, iv l.length), (32, iv i)], f7 [(7, [.g (.int .i64 f), .g (.int .i64 t)]), (15, D0 x)], f7 [(13, T7 o)]⟩
theorem a3N (l : List Alm) (s : List Ser) (hl : l.length <= 200) (h : ∀ i : Nat, i < l.length -> AlR s (l.getD i default)) (f t m n e : Int)
  (hw : FC Tryz.prog 41 none [r6 false l, B1 false s, .one (.g (.slice none 0 0)), wV f t] (fun _ r => r = iv e)) (he : C3 [e, maF m n] = 0) :
  FC Tryz.prog 13 none [r6 false l, B1 false s, wV f t, iv m, iv n] (fun _ r => r = .tu [c0O (chL s f t m n l), iv 0]) := by
 refine fcE Tryz.func13 a4G ?_
 have hmf := J5 m n
 have hfi := R1 false [e, maF m n] (by simp)
 rw [he] at hfi
 have hmn : (1 <= m ∧ m <= 5000) ∧ (1 <= n ∧ n <= 604800000) := by
  rw [a2b] at he
  unfold maF at he
  (repeat' split at he) <;> omega
 generalize maF m n = mm at *
 refine qc hw ?_
 refine qc hmf ?_
 refine qc hfi ?_
 refine qv ?_
 clear hw hmf hfi he
 refine j7 (c4s l s f t m n) (fun i o => 0 <= i ∧ i <= l.length ∧ o = chL s f t m n (l.take i.toNat)) (fun i _ => (l.length - i).toNat) 0 [] ⟨by omega, by omega, by simp [chL]⟩ rfl ?_
 rintro i o ⟨i0, i1, i2⟩
 unfold c4s
 by_cases hi : i < l.length
 ·have ei := e8 D0 l i [] i0 hi
  have hal := h i.toNat (by omega)
  have hst := a4T hal f t
  have hl2 : o.length <= l.length := by rw [i2]; refine Nat.le_trans (a3T _ _ _ _ _ _) ?_; rw [List.length_take]; omega
  have hsn := a3L s f t m n (l.getD i.toNat default) (l.take i.toNat)
  rw [<- n4 l i i0 hi, <- i2] at hsn
  have hln := Nat.le_trans (U4 (m8 s (l.getD i.toNat default)) f t) hal.w
  have hav := hal.st f t
  generalize stA (m8 s (l.getD i.toNat default)) f t = A at *
  rw [j9] at hst
  refine qc hst ?_
  refine qv ?_
  refine l0 (b8K l s f t m n i o (l.getD i.toNat default) A) (fun k => m - 1 <= k ∧ ∀ j : Nat, (j : Int) < k - (m - 1) -> b7y A m n j = false) (fun k => (A.length + 5000 - k).toNat) (m - 1) ⟨by omega, fun j hj => by omega⟩ (by simp only [b8K, j9]) ?_
  rintro k ⟨k0, k1⟩
  unfold b8K
  simp only [j9]
  by_cases hk : k < A.length
  ·have ea := e8 N3 A k [] (by omega) hk
   have v1 := hav k.toNat (by omega)
   have v2 := hav (k - m + 1).toNat (by omega)
   by_cases hd : A.getD k.toNat default - A.getD (k - m + 1).toNat default < n
   ·have hc : b7y A m n (k - m + 1).toNat = true := decide_eq_true ⟨by omega, by rw [show (k - m + 1).toNat + m.toNat - 1 = k.toNat by omega]; exact hd⟩
    rw [if_pos (a8y hmn.1.1 hc)] at hsn
    refine qv ?_
    exact ⟨i + 1, o ++ [(l.getD i.toNat default).k], by simp [c4s, T7, a2K], ⟨by omega, by omega, hsn.symm⟩, by omega⟩
   ·refine qv ?_
    refine ⟨k + 1, by simp only [b8K, j9], ⟨by omega, fun j hj => ?_⟩, by omega⟩
    by_cases hjk : (j : Int) < k - (m - 1)
    ·exact k1 j hjk
    ·obtain rfl : j = (k - m + 1).toNat := by omega
     refine decide_eq_false fun hh => hd ?_
     have h2 := hh.2
     rw [show (k - m + 1).toNat + m.toNat - 1 = k.toNat by omega] at h2
     exact h2
  ·have hc : chB A m n = false := a5I fun j => by
    by_cases hjk : (j : Int) < k - (m - 1)
    ·exact k1 j hjk
    ·exact decide_eq_false fun hh => by omega
   rw [hc, if_neg (by simp), List.append_nil] at hsn
   refine qv ?_
   exact ⟨i + 1, o, rfl, ⟨by omega, by omega, hsn.symm⟩, by omega⟩
 ·refine qv ?_
  rw [i2, show i.toNat = l.length by omega, List.take_length]
abbrev boC (b : Bool) : List Cel := [.g (.bool b)]
theorem c1n (b : Bool) : boC b = [Cel.g (.bool b)] := rfl
theorem d0d (l : List Bool) : frE (l.map boC) = true := a0o (fun _ => rfl) l
theorem c2e (l : List Bool) : a0k (l.map boC) = l.map boC := V7 (fun _ => rfl) l
theorem c5F (l : List Bool) : F8 (l.map boC) = l.map boC := U7 (fun _ => rfl) l
attribute [go_sem] c1n d0d c2e c5F
abbrev boV (fr : Bool) (B : List Bool) : Val := .one (.sl fr 1 (B.map boC))
abbrev b8J (B : List Bool) : Row := ⟨0, 4, 1, B.map boC⟩
def c8f (B : List Bool) (i : Int) : AS := ⟨m7 [(0, boV false B), (1, bv true), (7, iv B.length), (8, iv i)], f7 [], f7 []⟩
theorem c5b (B : List Bool) (hl : B.length <= 1000000) : FC Tryz.prog 99 none [boV false B, bv true] (fun _ r => r = iv (D3 (fun b => b) 0 B)) := by
 refine fcE Tryz.func99 (aL [[0,1],[0,1,7,8],[0,1,7,8,9],[0,1,5,7,8],[0,1,5,7,8,16],[4],[0,1,7,8],[4]]) ?_
 refine qv ?_
 refine l0 (c8f B) (fun i => 0 <= i ∧ i <= B.length ∧ D3 (fun b => b) i (B.drop i.toNat) = D3 (fun b => b) 0 B) (fun i => (B.length - i).toNat) 0 ⟨by omega, by omega, rfl⟩ rfl ?_
 rintro i ⟨g1, g2, g3⟩
 unfold c8f
 by_cases hi : i < B.length
 ·rw [m5 B i.toNat (by omega), D3] at g3
  have e2 : (i + 1).toNat = i.toNat + 1 := by omega
  cases h : B.getD i.toNat default with
  | true =>
   rw [h, if_pos rfl] at g3
   refine qv ?_
   refine ⟨fun _ => ?_, fun c => absurd h.symm c⟩
   rw [<- g3]
  | false =>
   rw [h, if_neg (by simp)] at g3
   refine qv ?_
   exact ⟨fun c => Bool.noConfusion (c.trans h), fun _ => ⟨_, rfl, ⟨by omega, by omega, by rw [e2]; exact g3⟩, by omega⟩⟩
 ·rw [List.drop_eq_nil_of_le (by omega), D3] at g3
  refine qv ?_
  rw [<- g3]
theorem c3l (B : List Bool) (hl : B.length <= 1000000) : FC Tryz.prog 61 none [boV false B, bv true] (fun _ r => r = bv (decide (true ∈ B))) := by
 refine fcE Tryz.func61 (aL [[0,1],[4]]) ?_
 have hi := c5b B hl
 have he : decide (0 <= D3 (fun b => b) 0 B) = decide (true ∈ B) := by
  rw [decide_eq_decide]
  rcases X8 (fun b : Bool => b) B 0 (by omega) with ⟨h1, h2⟩ | ⟨h1, h2, h3, h4⟩
  ·rw [h1]
   exact ⟨fun h => absurd h (by omega), fun h => by have := h2 _ h; cases this⟩
  ·refine ⟨fun _ => ?_, fun _ => h1⟩
   have h5 : B.getD (D3 (fun b => b) 0 B - 0).toNat default = true := h3
   have := f8 B (D3 (fun b => b) 0 B - 0).toNat (by omega)
   rwa [h5] at this
 rw [<- he]
 generalize D3 (fun b => b) 0 B = k at *
 refine qc hi ?_
 exact qt
def c4H (A : List Int) (m n : Int) (i : Int) (B : List Bool) : AS := ⟨m7 [(0, W0 false A), (1, iv m), (2, iv n), (7, .one (.ow 12 0)), (8, iv i)], f7 [], f7 [(12, b8J B)]⟩
def c5R (A : List Int) (m n : Int) (i k : Int) (B : List Bool) : AS := ⟨m7 [(0, W0 false A), (1, iv m), (2, iv n), (7, .one (.ow 12 0)), (8, iv i), (9, iv k)], f7 [], f7 [(12, b8J B)]⟩
theorem a9w (A : List Int) (m n : Int) (hA : A.length <= 1000000) (hv : ∀ i : Nat, i < A.length -> 0 <= A.getD i default ∧ A.getD i default <= 345686400000) (hmn : (1 <= m ∧ m <= 5000) ∧ (1 <= n ∧ n <= 604800000)) :
  FC Tryz.prog 62 none [W0 false A, iv m, iv n] (fun _ r => ∃ B : List Bool, B.length = A.length ∧ r = boV true B ∧ decide (true ∈ B) = chB A m n) := by
 refine fcE Tryz.func62 (aL [[0,1,2]] ++ aM [] [12] [[0,1,2,7],[0,1,2,7,8],[0,1,2,7,8,18],[0,1,2,7,8,34],[0,1,2,7,8,9],[0,1,2,7,8,9,40],[0,1,2,7,8,9],[0,1,2,7,8,9],[0,1,2,7,8]] ++ aL [[6]]) ?_
 refine qv ?_
 have est : List.replicate A.length [Cel.g (.bool false)] = (List.replicate A.length false).map boC := by rw [List.map_replicate]
 refine j7 (c4H A m n) (fun i B => (0 <= i ∧ i <= A.length + 1) ∧ B.length = A.length ∧ (true ∈ B ↔ ∃ j : Nat, (j : Int) < i ∧ b7y A m n j = true)) (fun i _ => (A.length + 1 - i).toNat) 0 (List.replicate A.length false) ⟨by omega, by simp, by simp only [List.mem_replicate]; exact ⟨fun h => by simp at h, fun ⟨j, h, _⟩ => by omega⟩⟩ (by simp only [c4H, b8J]; rw [<- est]) ?_
 rintro i B ⟨⟨i0, i9⟩, hB, hT⟩
 unfold c4H
 by_cases hi : i + m <= A.length
 ·have ea := e8 N3 A (i + m - 1) [] (by omega) (by omega)
  have v1 := hv (i + m - 1).toNat (by omega)
  have v2 := hv i.toNat (by omega)
  have hidx : i.toNat + m.toNat - 1 = (i + m - 1).toNat := by omega
  by_cases hd : A.getD (i + m - 1).toNat default - A.getD i.toNat default < n
  ·have hc : b7y A m n i.toNat = true := decide_eq_true ⟨by omega, by rw [hidx]; exact hd⟩
   refine qv ?_
   refine j7 (c5R A m n i) (fun k B' => i <= k ∧ k <= i + m ∧ B'.length = A.length ∧ (i < k -> true ∈ B')) (fun k _ => (i + m - k).toNat) i B ⟨by omega, by omega, hB, fun h => by omega⟩ rfl ?_
   rintro k B' ⟨k0, k1, k2, k3⟩
   unfold c5R
   by_cases hk : k < i + m
   ·have el := o8 boC B' k.toNat (by omega)
    refine qv ?_
    refine ⟨k + 1, B'.set k.toNat true, by simp only [c5R, b8J, List.map_set, c1n], ⟨by omega, by omega, by simp; omega, fun _ => ?_⟩, by omega⟩
    rw [List.mem_iff_getElem]
    exact ⟨k.toNat, by simp; omega, by simp⟩
   ·refine qv ?_
    refine ⟨i + 1, B', rfl, ⟨by omega, k2, ?_⟩, by omega⟩
    exact ⟨fun _ => ⟨i.toNat, by omega, hc⟩, fun _ => k3 (by omega)⟩
  ·have hc : b7y A m n i.toNat = false := decide_eq_false fun h => hd (by have := h.2; rwa [hidx] at this)
   refine qv ?_
   refine ⟨i + 1, B, rfl, ⟨by omega, hB, ?_⟩, by omega⟩
   rw [hT]
   refine ⟨fun ⟨j, h1, h2⟩ => ⟨j, by omega, h2⟩, fun ⟨j, h1, h2⟩ => ⟨j, ?_, h2⟩⟩
   by_cases hj : (j : Int) < i
   ·exact hj
   ·obtain rfl : j = i.toNat := by omega
    rw [hc] at h2; cases h2
 ·have hf : decide (true ∈ B) = chB A m n := by
   by_cases h : true ∈ B
   ·obtain ⟨j, _, h2⟩ := hT.1 h
    rw [decide_eq_true h, a8y hmn.1.1 h2]
   ·rw [decide_eq_false h]
    refine (a5I fun j => ?_).symm
    cases hc : b7y A m n j with
    | false => rfl
    | true =>
     have := of_decide_eq_true hc
     exact absurd (hT.2 ⟨j, by omega, hc⟩) h
  refine qv ?_
  exact ⟨B, hB, rfl, hf⟩
def c7e (l : List Alm) (s : List Ser) (f t m n : Int) (i : Int) (o : List ByteArray) : AS := ⟨m7 [(1, B1 false s), (3, iv m), (4, iv n), (7, .one (.bx 7 0)), (11, .one (.ow 11 0)), (14, r6 false l), (15, iv l.length), (16, iv i)], f7 [(7, [.g (.int .i64 f), .g (.int .i64 t)])], f7 [(11, T7 o)]⟩
theorem a1K (l : List Alm) (s : List Ser) (hl : l.length <= 200) (h : ∀ i : Nat, i < l.length -> AlR s (l.getD i default)) (f t m n : Int) (hw : 0 <= f ∧ f <= t ∧ t <= 345686400000) (hmn : maF m n = 0) :
  FC Tryz.prog 22 none [r6 false l, B1 false s, wV f t, iv m, iv n] (fun _ r => r = c0O (chL s f t m n l)) := by
 refine fcE Tryz.func22 (aM [7] [] [[0,1,3,4,7]] ++ [⟨(kP [0,1,3,4,7,11] [7] []),[(11,9,1)],[],[],[]⟩] ++ aM [7] [11] [[1,3,4,7,11,14,15,16],[1,3,4,7,11,14,15,16,17]] ++ aM [7,13] [11] [[1,3,4,7,11,13,14,15,16],[1,3,4,7,11,13,14,15,16,27]] ++ aM [7] [11] [[1,3,4,7,11,14,15,16],[1,3,4,7,11,14,15,16]] ++ aL [[10]]) ?_
 have hmn : (1 <= m ∧ m <= 5000) ∧ (1 <= n ∧ n <= 604800000) := by
  unfold maF at hmn
  split at hmn <;> omega
 refine qv ?_
 refine j7 (c7e l s f t m n) (fun i o => 0 <= i ∧ i <= l.length ∧ o = chL s f t m n (l.take i.toNat)) (fun i _ => (l.length - i).toNat) 0 [] ⟨by omega, by omega, by simp [chL]⟩ rfl ?_
 rintro i o ⟨i0, i1, i2⟩
 unfold c7e
 by_cases hi : i < l.length
 ·have ei := e8 D0 l i [] i0 hi
  have hal := h i.toNat (by omega)
  have hst := T9 hal f t (by omega) (by omega)
  have hl2 : o.length <= l.length := by rw [i2]; refine Nat.le_trans (a3T _ _ _ _ _ _) ?_; rw [List.length_take]; omega
  have hsn := a3L s f t m n (l.getD i.toNat default) (l.take i.toNat)
  rw [<- n4 l i i0 hi, <- i2] at hsn
  have hln := Nat.le_trans (U4 (m8 s (l.getD i.toNat default)) f t) hal.w
  have hav := hal.st f t
  generalize stA (m8 s (l.getD i.toNat default)) f t = A at *
  rw [j9] at hst
  have hcr := a9w A m n (by omega) hav hmn
  refine qc hst ?_
  refine qv ?_
  refine ⟨_, hcr, ⟨[], _, (if chB A m n = true then true :: List.replicate (A.length - 1) false else List.replicate A.length false), ?_, rfl, ?_⟩, ?_⟩
  ·split
   ·rename_i hc
    obtain ⟨j, hj, _⟩ := List.any_eq_true.1 hc
    rw [List.mem_range] at hj
    simp; omega
   ·simp
  ·split
   ·rename_i hc; rw [hc]; simp
   ·rename_i hc
    rw [Bool.eq_false_iff.2 hc]; simp
  ·rintro cs r ⟨B, hB, rfl, hT⟩
   refine ⟨.inl rfl, ?_⟩
   have hcb := c3l B (by omega)
   rw [hT] at hcb
   cases hc : chB A m n with
   | true =>
    rw [hc, if_pos rfl] at hsn
    rw [hc] at hcb
    refine qc hcb ?_
    refine qv ?_
    exact ⟨i + 1, o ++ [(l.getD i.toNat default).k], by simp [c7e, T7, a2K], ⟨by omega, by omega, hsn.symm⟩, by omega⟩
   | false =>
    rw [hc, if_neg (by simp), List.append_nil] at hsn
    rw [hc] at hcb
    refine qc hcb ?_
    refine qv ?_
    exact ⟨i + 1, o, rfl, ⟨by omega, by omega, hsn.symm⟩, by omega⟩
 ·refine qv ?_
  rw [i2, show i.toNat = l.length by omega, List.take_length]
end Go.Proofs.YtnlafmigfjlnnaaGreatDoor

/- Floods. -/
import Derived.Test.YtnlafmigfjlnnaaGreatDoorNsb
set_option linter.all false
set_option maxHeartbeats 0
set_option maxRecDepth 100000
namespace Go.Proofs.YtnlafmigfjlnnaaGreatDoor
open Go Go.Ai
def a4N : List Ann := (aM [7] [] [[0,1,3,4,7],[0,1,3,4,7,12],[0,1,3,4,7,12,30]] ++ [⟨(kP [10,11] [] []),[],[],[(10,2)],[]⟩,⟨(kP [0,1,3,4,7,13] [7] []),[(13,3,1)],[],[],[]⟩] ++ aM [7] [13] [[1,3,4,7,13,32,33,34],[1,3,4,7,13,32,33,34,35]] ++ aM [7,15] [13] [[1,3,4,7,13,15,32,33,34]] ++ aM [7] [13] [[1,3,4,7,13,32,33,34],[1,3,4,7,13,32,33,34]] ++ [⟨(kP [3,4,13] [] []),[],[],[],[(46,⟨[],[13],[],[13],[13]⟩)]⟩,⟨(kP [3,4,13,16] [] []),[(16,34,2)],[],[],[]⟩] ++ aM [] [16] [[3,4,13,16,17],[3,4,13,16,17,48,49],[3,4,13,16,17,48,49,50],[3,4,13,16,17,18,48,49],[3,4,13,16,17,18,19,48,49],[3,4,13,16,17,18,19,48,49,71],[3,4,13,16,17,18,19,48,49],[3,4,13,16,17,18,19,48,49,79],[3,4,13,16,17,18,19,48,49,82],[3,4,13,16,17,19,48,49],[3,4,13,16,17,19,48,49],[3,4,13,16,17,48,49],[3,4,13,16,17,48,49]] ++ aL [[10,11]])
def flK (A : List Int) (n : Int) (i k : Nat) : Nat := if k + 1 < A.length ∧ A.getD (k + 1) default - A.getD i default < n then flK A n i (k + 1) else k
termination_by A.length - k
theorem b3d (A : List Int) (n : Int) (i k : Nat) : k <= flK A n i k := by
 rw [flK]
 split
 ·have := b3d A n i (k + 1); omega
 ·exact Nat.le_refl _
termination_by A.length - k
theorem b2X (A : List Int) (n : Int) (i k : Nat) (h : k < A.length) : flK A n i k < A.length := by
 rw [flK]
 split
 ·rename_i hc; exact b2X A n i (k + 1) hc.1
 ·exact h
termination_by A.length - k
def flT (out : List (Int × Int)) (v : Int) : Int := max (out.getD ((out.length : Int) - 1).toNat default).2 v
def flR (A : List Int) (m n : Int) (i : Nat) (e : Int) (out : List (Int × Int)) : List (Int × Int) :=
 if i < A.length then
  if (flK A n i i : Int) - i + 1 < m then flR A m n (i + 1) e out
  else flR A m n (i + 1) (max e (flK A n i i)) (if (i : Int) <= e then O0 out (flT out (A.getD (flK A n i i) default + 1)) else out ++ [(A.getD i default, A.getD (flK A n i i) default + 1)])
 else out
termination_by A.length - i
theorem a6G (A : List Int) (m n : Int) (i : Nat) (e : Int) (out : List (Int × Int)) : (flR A m n i e out).length <= out.length + (A.length - i) := by
 rw [flR]
 split
 ·split
  ·have := a6G A m n (i + 1) e out; omega
  ·refine Nat.le_trans (a6G A m n (i + 1) _ _) ?_
   split
   ·rw [B2]; omega
   ·rw [List.length_append, List.length_singleton]; omega
 ·omega
termination_by A.length - i
def flA (s : List Ser) (f t : Int) (l : List Alm) : List Int := l.flatMap fun x => stA (m8 s x) f t
def flL (s : List Ser) (f t m n : Int) (l : List Alm) : List (Int × Int) := flR (T5 (flA s f t l)) m n 0 (-1) []
theorem a3i {s : List Ser} {f t : Int} {l : List Alm} (h : ∀ i : Nat, i < l.length -> AlR s (l.getD i default)) (i : Nat) : (flA s f t (l.take i)).length <= 1000 * l.length := by
 have key : ∀ q : List Alm, (∀ x ∈ q, AlR s x) -> (flA s f t q).length <= 1000 * q.length := fun q => by
  induction q with
  | nil => intro _; simp [flA]
  | cons x q ih =>
   intro hq
   have h1 := ih fun y hy => hq y (by simp [hy])
   have h2 := Nat.le_trans (U4 (m8 s x) f t) (hq x (by simp)).w
   unfold flA at h1 ⊢
   rw [List.flatMap_cons, List.length_append, List.length_cons]
   omega
 refine Nat.le_trans (key _ fun x hx => ?_) (Nat.mul_le_mul_left _ (by rw [List.length_take]; omega))
 obtain ⟨j, hj, rfl⟩ := G8 (List.mem_of_mem_take hx)
 exact h j hj
theorem b4v {s : List Ser} {f t : Int} {l : List Alm} (h : ∀ i : Nat, i < l.length -> AlR s (l.getD i default)) : ∀ v ∈ T5 (flA s f t l), 0 <= v ∧ v <= 345686400000 := fun v hv => by
 rw [a2W] at hv
 obtain ⟨x, hx, h1⟩ := List.mem_flatMap.1 hv
 obtain ⟨j, hj, rfl⟩ := G8 hx
 obtain ⟨w, h2, h3⟩ := b3c h1
 have := (h j hj).b w h2
 omega
def c4F (l : List Alm) (s : List Ser) (f t m n : Int) (i : Int) (o : List Int) : AS := ⟨m7 [(1, B1 false s), (3, iv m), (4, iv n), (7, .one (.bx 7 0)), (13, .one (.ow 13 0)), (32, r6 false l), (33, iv l.length), (34, iv i)], f7 [(7, [.g (.int .i64 f), .g (.int .i64 t)])], f7 [(13, a2j o)]⟩
def c0p (A : List Int) (m n : Int) (i e : Int) (out : List (Int × Int)) : AS := ⟨m7 [(3, iv m), (4, iv n), (13, W0 true A), (16, .one (.ow 16 0)), (17, iv e), (48, iv A.length), (49, iv i)], f7 [], f7 [(16, B4 out)]⟩
def c7K (A : List Int) (m n : Int) (i e : Int) (out : List (Int × Int)) (k : Int) : AS := ⟨m7 [(3, iv m), (4, iv n), (13, W0 true A), (16, .one (.ow 16 0)), (17, iv e), (18, iv i), (19, iv k), (48, iv A.length), (49, iv i)], f7 [], f7 [(16, B4 out)]⟩
theorem b1u (l : List Alm) (s : List Ser) (hl : l.length <= 200) (h : ∀ i : Nat, i < l.length -> AlR s (l.getD i default)) (f t m n e : Int)
  (hw : FC Tryz.prog 41 none [r6 false l, B1 false s, .one (.g (.slice none 0 0)), wV f t] (fun _ r => r = iv e)) (he : C3 [e, maF m n] = 0) :
  FC Tryz.prog 14 none [r6 false l, B1 false s, wV f t, iv m, iv n] (fun _ r => r = .tu [a0C true (flL s f t m n l), iv 0]) := by
 refine fcE Tryz.func14 a4N ?_
 have hmf := J5 m n
 have hfi := R1 false [e, maF m n] (by simp)
 rw [he] at hfi
 have hmn : (1 <= m ∧ m <= 5000) ∧ (1 <= n ∧ n <= 604800000) := by
  rw [a2b] at he
  unfold maF at he
  (repeat' split at he) <;> omega
 generalize maF m n = mm at *
 refine qc hw ?_
 refine qc hmf ?_
 refine qc hfi ?_
 refine qv ?_
 clear hw hmf hfi he
 refine j7 (c4F l s f t m n) (fun i o => 0 <= i ∧ i <= l.length ∧ o = flA s f t (l.take i.toNat)) (fun i _ => (l.length - i).toNat) 0 [] ⟨by omega, by omega, by simp [flA]⟩ rfl ?_
 rintro i o ⟨i0, i1, i2⟩
 unfold c4F
 have hol : o.length <= 1000 * l.length := by rw [i2]; exact a3i h _
 by_cases hi : i < l.length
 ·have ei := e8 D0 l i [] i0 hi
  have hal := h i.toNat (by omega)
  have hst := a4T hal f t
  have hln := Nat.le_trans (U4 (m8 s (l.getD i.toNat default)) f t) hal.w
  have hsn : flA s f t (l.take (i + 1).toNat) = o ++ stA (m8 s (l.getD i.toNat default)) f t := by
   rw [n4 l i i0 hi, flA, List.flatMap_append, List.flatMap_singleton, i2]; rfl
  generalize stA (m8 s (l.getD i.toNat default)) f t = A at *
  rw [j9] at hst
  refine qc hst ?_
  refine qv ?_
  exact ⟨i + 1, o ++ A, by simp only [c4F, a2j, List.map_append], ⟨by omega, by omega, hsn.symm⟩, by omega⟩
 ·rw [List.take_of_length_le (by omega)] at i2
  have hso := Z0 o (by omega)
  have hrg := b4v (f := f) (t := t) h
  have hsl : (T5 o).length = o.length := List.length_mergeSort _
  unfold flL
  rw [<- i2] at hrg ⊢
  refine qv ?_
  refine ⟨rfl, C5 ⟨[], [(13, a2j (T5 o))]⟩ (.tu []) (fun k => k) (swp 13 1000000) (fun _ => rfl) (s8 13 1000000) hso (by simp) rfl rfl rfl rfl rfl ⟨rfl, rfl⟩ ?_⟩
  generalize T5 o = A at *
  refine qv ?_
  refine F4 (c0p A m n) (fun i e out => 0 <= i ∧ i <= A.length ∧ out.length <= i ∧ (-1 <= e ∧ e < A.length) ∧ (0 <= e -> 1 <= out.length) ∧ flR A m n i.toNat e out = flR A m n 0 (-1) []) (fun i _ _ => (A.length - i).toNat) 0 (-1) [] ⟨by omega, by omega, by simp, by omega, by omega, rfl⟩ rfl ?_
  rintro i e out ⟨g1, g2, g3, g4, g5, g6⟩
  unfold c0p
  by_cases hi : i < A.length
  ·have e2 : (i + 1).toNat = i.toNat + 1 := by omega
   have kg := b3d A n i.toNat i.toNat
   have kl := b2X A n i.toNat i.toNat (by omega)
   rw [flR, if_pos (by omega), <- e2] at g6
   refine qv ?_
   refine l0 (c7K A m n i e out) (fun k => i <= k ∧ k < A.length ∧ flK A n i.toNat k.toNat = flK A n i.toNat i.toNat) (fun k => (A.length - k).toNat) i ⟨by omega, by omega, rfl⟩ rfl ?_
   rintro k ⟨k1, k2, k3⟩
   unfold c7K
   have vi := hrg _ (f8 A i.toNat (by omega))
   have vk := hrg _ (f8 A k.toNat (by omega))
   have eN : (k + 1).toNat = k.toNat + 1 := by omega
   rw [flK, <- eN] at k3
   have done : flK A n i.toNat i.toNat = k.toNat -> flR A m n 0 (-1) [] = if k - i + 1 < m then flR A m n (i + 1).toNat e out else flR A m n (i + 1).toNat (max e k) (if i <= e then O0 out (flT out (A.getD k.toNat default + 1)) else out ++ [(A.getD i.toNat default, A.getD k.toNat default + 1)]) := fun hk => by
    rw [<- g6, hk, show ((k.toNat : Nat) : Int) = k by omega, show ((i.toNat : Nat) : Int) = i by omega]
   clear g6
   by_cases hc : k + 1 < A.length ∧ A.getD (k + 1).toNat default - A.getD i.toNat default < n
   ·have ek1 := e8 N3 A (k + 1) [] (by omega) hc.1
    have vk1 := hrg _ (f8 A (k + 1).toNat (by omega))
    rw [if_pos ⟨by omega, hc.2⟩] at k3
    obtain ⟨hc1, hc2⟩ := hc
    refine qv ?_
    exact ⟨k + 1, rfl, ⟨by omega, by omega, k3⟩, by omega⟩
   ·rw [if_neg (fun hh => hc ⟨by omega, hh.2⟩)] at k3
    have dn := done k3.symm
    have hz : ¬k + 1 < A.length ∨ (k + 1 < A.length ∧ ¬A.getD (k + 1).toNat default - A.getD i.toNat default < n ∧ (A.map N3).getD (k + 1).toNat [] = N3 (A.getD (k + 1).toNat default) ∧ 0 <= A.getD (k + 1).toNat default ∧ A.getD (k + 1).toNat default <= 345686400000) := by
     by_cases c : k + 1 < A.length
     ·exact .inr ⟨c, fun h => hc ⟨c, h⟩, e8 N3 A (k + 1) [] (by omega) c, hrg _ (f8 A (k + 1).toNat (by omega))⟩
     ·exact .inl c
    clear hc
    rcases hz with hz | ⟨hz, hd, ek1, vk1⟩
    all_goals
     by_cases h1 : k - i + 1 < m
     ·rw [if_pos h1] at dn
      refine qv ?_
      exact ⟨i + 1, e, out, rfl, ⟨by omega, by omega, by omega, g4, g5, dn.symm⟩, by omega⟩
     ·rw [if_neg h1] at dn
      by_cases h2 : i <= e
      ·rw [if_pos h2] at dn
       have h3 := g5 (by omega)
       refine qv ?_
       refine ⟨i + 1, _, O0 out (flT out (A.getD k.toNat default + 1)), ?_, ⟨by omega, by omega, by rw [B2]; omega, (by omega), (fun _ => by rw [B2]; omega), dn.symm⟩, by omega⟩
       simp only [c0p, B4, I0, flT]
      ·rw [if_neg h2] at dn
       refine qv ?_
       refine ⟨i + 1, _, out ++ [(A.getD i.toNat default, A.getD k.toNat default + 1)], ?_, ⟨by omega, by omega, by simp; omega, (by omega), (fun _ => by simp), dn.symm⟩, by omega⟩
       simp only [c0p, B4, List.map_append, List.map_cons, List.map_nil, T0]
  ·rw [flR, if_neg (by omega)] at g6
   rw [<- g6]
   exact qt
def c1S (l : List Alm) (s : List Ser) (f t m n : Int) (i : Int) (o : List Int) : AS := ⟨m7 [(1, B1 false s), (3, iv m), (4, iv n), (7, .one (.bx 7 0)), (11, .one (.ow 11 0)), (19, r6 false l), (20, iv l.length), (21, iv i)], f7 [(7, [.g (.int .i64 f), .g (.int .i64 t)])], f7 [(11, a2j o)]⟩
def b4D (A : List Int) (m n : Int) (i e : Int) (out : List (Int × Int)) : AS := ⟨m7 [(3, iv m), (4, iv n), (11, W0 true A), (14, .one (.ow 14 0)), (15, iv e), (35, iv A.length), (36, iv i)], f7 [], f7 [(14, B4 out)]⟩
def c7O (A : List Int) (m n : Int) (i e : Int) (out : List (Int × Int)) (k : Int) : AS := ⟨m7 [(3, iv m), (4, iv n), (11, W0 true A), (14, .one (.ow 14 0)), (15, iv e), (16, iv i), (17, iv k), (35, iv A.length), (36, iv i)], f7 [], f7 [(14, B4 out)]⟩
theorem a6g (l : List Alm) (s : List Ser) (hl : l.length <= 200) (h : ∀ i : Nat, i < l.length -> AlR s (l.getD i default)) (f t m n : Int) (hw : 0 <= f ∧ f <= t ∧ t <= 345686400000) (hmn : maF m n = 0) :
  FC Tryz.prog 23 none [r6 false l, B1 false s, wV f t, iv m, iv n] (fun _ r => r = a0C true (flL s f t m n l)) := by
 refine fcE Tryz.func23 (aM [7] [] [[0,1,3,4,7]] ++ [⟨(kP [0,1,3,4,7,11] [7] []),[(11,3,1)],[],[],[]⟩] ++ aM [7] [11] [[1,3,4,7,11,19,20,21],[1,3,4,7,11,19,20,21,22]] ++ aM [7,13] [11] [[1,3,4,7,11,13,19,20,21]] ++ aM [7] [11] [[1,3,4,7,11,19,20,21],[1,3,4,7,11,19,20,21]] ++ [⟨(kP [3,4,11] [] []),[],[],[],[(33,⟨[],[11],[],[11],[11]⟩)]⟩,⟨(kP [3,4,11,14] [] []),[(14,34,2)],[],[],[]⟩] ++ aM [] [14] [[3,4,11,14,15],[3,4,11,14,15,35,36],[3,4,11,14,15,35,36,37],[3,4,11,14,15,16,35,36],[3,4,11,14,15,16,17,35,36],[3,4,11,14,15,16,17,35,36,58],[3,4,11,14,15,16,17,35,36],[3,4,11,14,15,16,17,35,36,66],[3,4,11,14,15,16,17,18,35,36],[3,4,11,14,15,16,17,18,35,36,75],[3,4,11,14,15,17,35,36],[3,4,11,14,15,17,35,36],[3,4,11,14,15,35,36],[3,4,11,14,15,35,36]] ++ aL [[10]]) ?_
 have hmn : (1 <= m ∧ m <= 5000) ∧ (1 <= n ∧ n <= 604800000) := by
  unfold maF at hmn
  split at hmn <;> omega
 refine qv ?_
 refine j7 (c1S l s f t m n) (fun i o => 0 <= i ∧ i <= l.length ∧ o = flA s f t (l.take i.toNat)) (fun i _ => (l.length - i).toNat) 0 [] ⟨by omega, by omega, by simp [flA]⟩ rfl ?_
 rintro i o ⟨i0, i1, i2⟩
 unfold c1S
 have hol : o.length <= 1000 * l.length := by rw [i2]; exact a3i h _
 by_cases hi : i < l.length
 ·have ei := e8 D0 l i [] i0 hi
  have hal := h i.toNat (by omega)
  have hst := T9 hal f t (by omega) (by omega)
  have hln := Nat.le_trans (U4 (m8 s (l.getD i.toNat default)) f t) hal.w
  have hsn : flA s f t (l.take (i + 1).toNat) = o ++ stA (m8 s (l.getD i.toNat default)) f t := by
   rw [n4 l i i0 hi, flA, List.flatMap_append, List.flatMap_singleton, i2]; rfl
  generalize stA (m8 s (l.getD i.toNat default)) f t = A at *
  rw [j9] at hst
  refine qc hst ?_
  refine qv ?_
  exact ⟨i + 1, o ++ A, by simp only [c1S, a2j, List.map_append], ⟨by omega, by omega, hsn.symm⟩, by omega⟩
 ·rw [List.take_of_length_le (by omega)] at i2
  have hso := Z0 o (by omega)
  have hrg := b4v (f := f) (t := t) h
  have hsl : (T5 o).length = o.length := List.length_mergeSort _
  unfold flL
  rw [<- i2] at hrg ⊢
  refine qv ?_
  refine ⟨rfl, C5 ⟨[], [(11, a2j (T5 o))]⟩ (.tu []) (fun k => k) (swp 11 1000000) (fun _ => rfl) (s8 11 1000000) hso (by simp) rfl rfl rfl rfl rfl ⟨rfl, rfl⟩ ?_⟩
  generalize T5 o = A at *
  refine qv ?_
  refine F4 (b4D A m n) (fun i d out => 0 <= i ∧ i <= A.length ∧ out.length <= i ∧ ∃ e : Int, (-1 <= e ∧ e < A.length) ∧ (0 <= e -> 1 <= out.length ∧ d = e) ∧ (e < 0 -> out.length = 0 ∧ d = 0) ∧ flR A m n i.toNat e out = flR A m n 0 (-1) []) (fun i _ _ => (A.length - i).toNat) 0 0 [] ⟨by omega, by omega, by simp, -1, by omega, by omega, by simp, rfl⟩ rfl ?_
  rintro i d out ⟨g1, g2, g3, e, g4, g5, g7, g6⟩
  unfold b4D
  by_cases hi : i < A.length
  ·have e2 : (i + 1).toNat = i.toNat + 1 := by omega
   have kg := b3d A n i.toNat i.toNat
   have kl := b2X A n i.toNat i.toNat (by omega)
   rw [flR, if_pos (by omega), <- e2] at g6
   refine qv ?_
   refine l0 (c7O A m n i d out) (fun k => i <= k ∧ k < A.length ∧ flK A n i.toNat k.toNat = flK A n i.toNat i.toNat) (fun k => (A.length - k).toNat) i ⟨by omega, by omega, rfl⟩ rfl ?_
   rintro k ⟨k1, k2, k3⟩
   unfold c7O
   have vi := hrg _ (f8 A i.toNat (by omega))
   have vk := hrg _ (f8 A k.toNat (by omega))
   have eN : (k + 1).toNat = k.toNat + 1 := by omega
   rw [flK, <- eN] at k3
   have done : flK A n i.toNat i.toNat = k.toNat -> flR A m n 0 (-1) [] = if k - i + 1 < m then flR A m n (i + 1).toNat e out else flR A m n (i + 1).toNat (max e k) (if i <= e then O0 out (flT out (A.getD k.toNat default + 1)) else out ++ [(A.getD i.toNat default, A.getD k.toNat default + 1)]) := fun hk => by
    rw [<- g6, hk, show ((k.toNat : Nat) : Int) = k by omega, show ((i.toNat : Nat) : Int) = i by omega]
   clear g6
   by_cases hc : k + 1 < A.length ∧ A.getD (k + 1).toNat default - A.getD i.toNat default < n
   ·have ek1 := e8 N3 A (k + 1) [] (by omega) hc.1
    have vk1 := hrg _ (f8 A (k + 1).toNat (by omega))
    rw [if_pos ⟨by omega, hc.2⟩] at k3
    obtain ⟨hc1, hc2⟩ := hc
    refine qv ?_
    exact ⟨k + 1, rfl, ⟨by omega, by omega, k3⟩, by omega⟩
   ·rw [if_neg (fun hh => hc ⟨by omega, hh.2⟩)] at k3
    have dn := done k3.symm
    have hz : ¬k + 1 < A.length ∨ (k + 1 < A.length ∧ ¬A.getD (k + 1).toNat default - A.getD i.toNat default < n ∧ (A.map N3).getD (k + 1).toNat [] = N3 (A.getD (k + 1).toNat default) ∧ 0 <= A.getD (k + 1).toNat default ∧ A.getD (k + 1).toNat default <= 345686400000) := by
     by_cases c : k + 1 < A.length
     ·exact .inr ⟨c, fun h => hc ⟨c, h⟩, e8 N3 A (k + 1) [] (by omega) c, hrg _ (f8 A (k + 1).toNat (by omega))⟩
     ·exact .inl c
    clear hc
    rcases hz with hz | ⟨hz, hd, ek1, vk1⟩
    all_goals
     by_cases h1 : k - i + 1 < m
     ·rw [if_pos h1] at dn
      refine qv ?_
      exact ⟨i + 1, d, out, rfl, ⟨by omega, by omega, by omega, e, g4, g5, g7, dn.symm⟩, by omega⟩
     ·rw [if_neg h1] at dn
      by_cases h2 : i <= e
      ·rw [if_pos h2] at dn
       obtain ⟨h3, rfl⟩ := g5 (by omega)
       refine qv ?_
       refine ⟨i + 1, _, O0 out (flT out (A.getD k.toNat default + 1)), ?_, ⟨by omega, by omega, by rw [B2]; omega, _, (by omega), (fun _ => ⟨by rw [B2]; omega, rfl⟩), (fun c => by omega), dn.symm⟩, by omega⟩
       simp only [b4D, B4, I0, flT]
      ·rw [if_neg h2] at dn
       have hde : max d k = max e k := by
        by_cases c : 0 <= e
        ·rw [(g5 c).2]
        ·have := (g7 (by omega)).2; omega
       rw [<- hde] at dn
       by_cases hn : 0 < out.length
       ·have h4 : d = e := (g5 (by by_cases c : 0 <= e; exact c; have := (g7 (by omega)).1; omega)).2
        refine qv ?_
        refine ⟨i + 1, _, out ++ [(A.getD i.toNat default, A.getD k.toNat default + 1)], ?_, ⟨by omega, by omega, by simp; omega, _, (by omega), (fun _ => ⟨by simp, rfl⟩), (fun c => by omega), dn.symm⟩, by omega⟩
        simp only [b4D, B4, List.map_append, List.map_cons, List.map_nil, T0]
       ·have h4 : d = 0 := by
         by_cases c : 0 <= e
         ·have := (g5 c).1; omega
         ·exact (g7 (by omega)).2
        refine qv ?_
        refine ⟨i + 1, _, out ++ [(A.getD i.toNat default, A.getD k.toNat default + 1)], ?_, ⟨by omega, by omega, by simp; omega, _, (by omega), (fun _ => ⟨by simp, rfl⟩), (fun c => by omega), dn.symm⟩, by omega⟩
        simp only [b4D, B4, List.map_append, List.map_cons, List.map_nil, T0]
  ·rw [flR, if_neg (by omega)] at g6
   rw [<- g6]
   exact qt
end Go.Proofs.YtnlafmigfjlnnaaGreatDoor

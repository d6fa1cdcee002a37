/- NuisancesFound. -/
import Derived.Test.YtnlafmigfjlnnaaGreatDoorNsc
import Derived.Test.YtnlafmigfjlnnaaGreatDoorNse
import Derived.Test.YtnlafmigfjlnnaaGreatDoorNsg
import Derived.Test.YtnlafmigfjlnnaaGreatDoorAla
set_option linter.all false
set_option maxHeartbeats 0
set_option maxRecDepth 100000
namespace Go.Proofs.YtnlafmigfjlnnaaGreatDoor
open Go Go.Ai
def nuS (l : List Alm) (s : List Ser) : Int := C3 [afF l, asF s]
def a5X (l : List Alm) (s : List Ser) (f t m n : Int) : Int := C3 [nuS l s, z8 f t, maF m n]
def b5T (l : List Alm) (s : List Ser) (a : List Opr) (at_ n : Int) : Int := C3 [nuS l s, ofF a, if 0 <= at_ ∧ at_ <= 345686399999 then 0 else 1, if 1 <= n ∧ n <= 604800000 then 0 else 1]
def a2q (l : List Alm) (s : List Ser) (f t : Int) : Int := C3 [nuS l s, z8 f t]
def nuC (l : List Alm) (s : List Ser) (f t m n : Int) : List ByteArray := if a5X l s f t m n = 0 then chL s f t m n l else []
def nuF (l : List Alm) (s : List Ser) (f t m n : Int) : List (Int × Int) := if a5X l s f t m n = 0 then flL s f t m n l else []
def nuT (l : List Alm) (s : List Ser) (a : List Opr) (at_ n : Int) : List ByteArray := if b5T l s a at_ n = 0 then tlL (tlM (a6L l s a at_).out) at_ n l else []
def nuD (l : List Alm) (s : List Ser) (f t : Int) : List (ByteArray × ByteArray) := if a2q l s f t = 0 then dtS s f t l else []
section
variable {l : List Alm} {s : List Ser} {a : List Opr}
theorem Drw.nil (h : Drw l s a) : Drw l s [] := ⟨h.l3, h.s2, by simp, h.sl, h.ss, by simp⟩
theorem b2t : alF l s [] = nuS l s := by
 unfold alF nuS
 rw [c6C, a2b, show ofF [] = 0 from rfl]
 (repeat' split) <;> omega
theorem c5E (f t : Int) : lgE l s [] f t = a2q l s f t := by
 unfold lgE a2q z8
 rw [b2t, a2b]
 (repeat' split) <;> omega
theorem a1y (f t m n : Int) : C3 [a2q l s f t, maF m n] = a5X l s f t m n := by
 unfold a2q a5X
 rw [c6C, a2b, a2b]
 (repeat' split) <;> omega
theorem Drw.awN (h : Drw l s a) (f t : Int) : FC Tryz.prog 41 none [r6 false l, B1 false s, .one (.g (.slice none 0 0)), wV f t] (fun _ r => r = iv (a2q l s f t)) := by
 have := a6v h.nil f t
 rw [c5E] at this
 exact d1t this rfl fun i x y hx hy => by
  match i with
  | 0 => cases hx; cases hy; exact .inl rfl
  | 1 => cases hx; cases hy; exact .inl rfl
  | 2 => cases hx; cases hy; exact .inr ⟨rfl, false, 6, rfl⟩
  | 3 => cases hx; cases hy; exact .inl rfl
  | i + 4 => simp at hx
theorem nuE3_zero {f t : Int} : a2q l s f t = 0 ↔ nuS l s = 0 ∧ (0 <= f ∧ f <= t ∧ t <= 345686400000) := by
 unfold a2q z8
 rw [a2b]
 (repeat' split) <;> constructor <;> intro h <;> first | omega | (obtain ⟨h1, h2⟩ := h; omega)
theorem nuE1_zero {f t m n : Int} : a5X l s f t m n = 0 ↔ a2q l s f t = 0 ∧ maF m n = 0 := by
 rw [<- a1y, a2b]
 (repeat' split) <;> constructor <;> intro h <;> first | omega | (obtain ⟨h1, h2⟩ := h; omega)
theorem Drw.alr (h : Drw l s a) (h0 : nuS l s = 0) : ∀ i : Nat, i < l.length -> AlR s (l.getD i default) := fun i hi => by
 have ok := h.nil.ok (by rw [b2t]; exact h0)
 obtain ⟨kk, hff⟩ := a4i (ok.al.flt i hi)
 obtain ⟨f1, f2, f3, f4, f5, f6⟩ := a3w hff
 refine ⟨⟨f2, f3, f4, f5⟩, ok.se, Nat.le_trans (a1I (m := 10) (fun x hx => by have := (h.ss x hx).2; omega) _) (by omega), fun v hv => ?_⟩
 have := (a8C ok.al ok.se _ (f8 l i hi)).lt v hv
 omega
theorem b5P (h : Drw l s a) (f t m n : Int) :
  FC Tryz.prog 13 none [r6 false l, B1 false s, wV f t, iv m, iv n] (fun _ r => r = .tu [c0O (nuC l s f t m n), iv (a5X l s f t m n)]) := by
 have hw := h.awN f t
 have hl := h.l3
 by_cases h0 : a5X l s f t m n = 0
 ·obtain ⟨h1, h2⟩ := nuE1_zero.1 h0
  unfold nuC; rw [h0, if_pos rfl]
  exact a3N l s (by omega) (h.alr (nuE3_zero.1 h1).1) f t m n _ hw (by rw [a1y]; exact h0)
 ·unfold nuC; rw [if_neg h0]
  refine fcE Tryz.func13 a4G ?_
  have hf := R1 false [a2q l s f t, maF m n] (by simp)
  rw [a1y] at hf
  have hm := J5 m n
  generalize a5X l s f t m n = e at *
  generalize a2q l s f t = e3 at *
  generalize maF m n = em at *
  refine qc hw ?_
  refine qc hm ?_
  refine qc hf ?_
  refine qv ?_
  rfl
theorem b6F (h : Drw l s a) (f t m n : Int) :
  FC Tryz.prog 14 none [r6 false l, B1 false s, wV f t, iv m, iv n] (fun _ r => r = .tu [a0C true (nuF l s f t m n), iv (a5X l s f t m n)]) := by
 have hw := h.awN f t
 have hl := h.l3
 by_cases h0 : a5X l s f t m n = 0
 ·obtain ⟨h1, h2⟩ := nuE1_zero.1 h0
  unfold nuF; rw [h0, if_pos rfl]
  exact b1u l s (by omega) (h.alr (nuE3_zero.1 h1).1) f t m n _ hw (by rw [a1y]; exact h0)
 ·unfold nuF; rw [if_neg h0]
  refine fcE Tryz.func14 a4N ?_
  have hf := R1 false [a2q l s f t, maF m n] (by simp)
  rw [a1y] at hf
  have hm := J5 m n
  generalize a5X l s f t m n = e at *
  generalize a2q l s f t = e3 at *
  generalize maF m n = em at *
  refine qc hw ?_
  refine qc hm ?_
  refine qc hf ?_
  refine qv ?_
  rfl
theorem b1t (at_ n : Int) : b5T l s a at_ n = if alF l s a ≠ 0 then alF l s a else if (0 <= at_ ∧ at_ <= 345686399999) ∧ (1 <= n ∧ n <= 604800000) then 0 else 1 := by
 unfold b5T alF nuS
 rw [d0i, c6C, a2b]
 (repeat' split) <;> omega
theorem b8Y (h : Drw l s a) (at_ n : Int) :
  FC Tryz.prog 15 none [r6 false l, B1 false s, F7 false a, iv at_, iv n] (fun _ r => r = .tu [c0O (nuT l s a at_ n), iv (b5T l s a at_ n)]) := by
 have hf := h.fault
 have hl := h.l3
 have he := b1t (l := l) (s := s) (a := a) at_ n
 unfold nuT
 by_cases h0 : alF l s a = 0
 ·rw [if_neg (by omega)] at he
  by_cases hm : 0 <= at_ ∧ at_ <= 345686399999
  ·by_cases hn : 1 <= n ∧ n <= 604800000
   ·rw [if_pos ⟨hm, hn⟩] at he
    rw [he, if_pos rfl]
    have ok := h.ok h0
    exact b8r l s a ok at_ n hm hn (c6a _ fun z hz => by have := (ok.lg at_).b z hz; omega)
   ·rw [if_neg (by omega)] at he
    rw [he, if_neg (by omega)]
    refine fcE Tryz.func15 S2 ?_
    have hmo := P0 at_
    rw [decide_eq_true hm] at hmo
    have hou := D4 n 1 604800000
    rw [decide_eq_true (by omega)] at hou
    rw [h0] at hf
    refine qc hf ?_
    refine qc hmo ?_
    refine qc hou ?_
    refine qv ?_
    rfl
  ·rw [if_neg (by omega)] at he
   rw [he, if_neg (by omega)]
   refine fcE Tryz.func15 S2 ?_
   have hmo := P0 at_
   rw [decide_eq_false hm] at hmo
   rw [h0] at hf
   refine qc hf ?_
   refine qc hmo ?_
   refine qv ?_
   rfl
 ·rw [if_pos h0] at he
  rw [he, if_neg h0]
  refine fcE Tryz.func15 S2 ?_
  generalize alF l s a = e at *
  refine qc hf ?_
  refine qv ?_
  rfl
theorem b7T (h : Drw l s a) (f t : Int) :
  FC Tryz.prog 16 none [r6 false l, B1 false s, wV f t] (fun _ r => r = .tu [prV (nuD l s f t), iv (a2q l s f t)]) := by
 have hw := h.awN f t
 have hl := h.l3
 unfold nuD
 by_cases h0 : a2q l s f t = 0
 ·obtain ⟨h1, h2⟩ := nuE3_zero.1 h0
  rw [h0] at hw ⊢
  rw [if_pos rfl]
  exact b1J l s (by omega) (h.alr h1) f t h2 hw
 ·rw [if_neg h0]
  refine fcE Tryz.func16 a5M ?_
  generalize a2q l s f t = e at *
  refine qc hw ?_
  refine qv ?_
  rfl
/-! ### the reference's answers -/
theorem d4f (h : Drw l s a) (f t m n : Int) :
  (a5X l s f t m n = 0 ∧ FC Tryz.prog 22 none [r6 false l, B1 false s, wV f t, iv m, iv n] (fun _ r => r = c0O (nuC l s f t m n)) ∧ FC Tryz.prog 23 none [r6 false l, B1 false s, wV f t, iv m, iv n] (fun _ r => r = a0C true (nuF l s f t m n))) ∨ (a5X l s f t m n ≠ 0 ∧ nuC l s f t m n = [] ∧ nuF l s f t m n = []) := by
 have hl := h.l3
 unfold nuC nuF
 by_cases h0 : a5X l s f t m n = 0
 ·obtain ⟨h1, h2⟩ := nuE1_zero.1 h0
  obtain ⟨h3, h4⟩ := nuE3_zero.1 h1
  rw [if_pos h0, if_pos h0]
  exact .inl ⟨h0, a1K l s (by omega) (h.alr h3) f t m n h4 h2, a6g l s (by omega) (h.alr h3) f t m n h4 h2⟩
 ·rw [if_neg h0, if_neg h0]
  exact .inr ⟨h0, rfl, rfl⟩
theorem d4V (h : Drw l s a) (at_ n : Int) :
  (b5T l s a at_ n = 0 ∧ FC Tryz.prog 24 none [r6 false l, B1 false s, F7 false a, iv at_, iv n] (fun _ r => r = c0O (nuT l s a at_ n))) ∨ (b5T l s a at_ n ≠ 0 ∧ nuT l s a at_ n = []) := by
 unfold nuT
 by_cases h0 : b5T l s a at_ n = 0
 ·rw [if_pos h0]
  have he := b1t (l := l) (s := s) (a := a) at_ n
  rw [h0] at he
  have h1 : alF l s a = 0 := by
   by_cases c : alF l s a = 0
   ·exact c
   ·rw [if_pos c] at he; exact absurd he.symm c
  rw [if_neg (by omega)] at he
  have hm : 0 <= at_ ∧ at_ <= 345686399999 := by split at he <;> omega
  have ok := h.ok h1
  have hb : ∀ z ∈ (rlA l s a at_).out, 0 <= z.si ∧ z.si <= at_ := fun z hz => by
   rw [(ok.rl hm.2).1] at hz
   exact (ok.lg at_).b z hz
  have hs := a9u (h.rl h1) at_ n hm hb
  rw [c1K (fun z hz => (hb z hz).1), (ok.rl hm.2).1] at hs
  exact .inl ⟨h0, hs⟩
 ·rw [if_neg h0]
  exact .inr ⟨h0, rfl⟩
theorem d3c (h : Drw l s a) (f t : Int) :
  (a2q l s f t = 0 ∧ FC Tryz.prog 25 none [r6 false l, B1 false s, wV f t] (fun _ r => r = prV (nuD l s f t))) ∨ (a2q l s f t ≠ 0 ∧ nuD l s f t = []) := by
 have hl := h.l3
 unfold nuD
 by_cases h0 : a2q l s f t = 0
 ·obtain ⟨h1, h2⟩ := nuE3_zero.1 h0
  rw [if_pos h0]
  exact .inl ⟨h0, a6A l s (by omega) (h.alr h1) f t h2⟩
 ·rw [if_neg h0]
  exact .inr ⟨h0, rfl⟩
theorem c1W (h : Drw l s a) (f t m n : Int) : (nuC l s f t m n).length <= 100000000 := by
 have hl := h.l3
 unfold nuC
 split
 ·exact Nat.le_trans (a3T _ _ _ _ _ _) (by omega)
 ·simp
theorem c4L (h : Drw l s a) (at_ n : Int) : (nuT l s a at_ n).length <= 100000000 := by
 have hl := h.l3
 unfold nuT
 split
 ·exact Nat.le_trans (a6t _ _ _ _) (by omega)
 ·simp
theorem c4k (h : Drw l s a) (f t : Int) : (nuD l s f t).length <= 100000000 := by
 have hl := h.l3
 unfold nuD
 split
 ·unfold dtS
  rw [List.length_map]
  exact Nat.le_trans (Nat.le_of_eq (K0 _ _ _ _)) (Nat.le_trans (a3n _ _ _ _) (by omega))
 ·simp
theorem c2m (h : Drw l s a) (f t m n : Int) : (nuF l s f t m n).length <= 100000000 := by
 have hl := h.l3
 unfold nuF
 split
 ·rename_i h0
  have h3 := (nuE3_zero.1 (nuE1_zero.1 h0).1).1
  have h1 := a3i (f := f) (t := t) (h.alr h3) l.length
  rw [List.take_length] at h1
  have h2 : (T5 (flA s f t l)).length = (flA s f t l).length := List.length_mergeSort _
  have h4 := a6G (T5 (flA s f t l)) m n 0 (-1) []
  unfold flL
  simp only [List.length_nil] at h4
  omega
 ·simp
end
/-! ### the lists are told alike -/
def c9B (l : List ByteArray) (i : Int) : AS := ⟨m7 [(0, .one (.sl false 1 (l.map a2K))), (1, .one (.sl false 1 (l.map a2K))), (12, iv l.length), (13, iv i)], f7 [], f7 []⟩
theorem a8v (l : List ByteArray) (hl : l.length <= 100000000) : FC Tryz.prog 26 none [.one (.sl false 1 (l.map a2K)), .one (.sl false 1 (l.map a2K))] (fun _ r => r = bv true) := by
 refine fcE Tryz.func26 (aL [[0,1],[0,1,10],[4],[0,1,12,13],[0,1,12,13,14],[0,1,5,12,13],[0,1,12,13,24],[4],[0,1,12,13],[4]]) ?_
 refine qv ?_
 refine l0 (c9B l) (fun i => 0 <= i ∧ i <= l.length) (fun i => (l.length - i).toNat) 0 ⟨by omega, by omega⟩ rfl ?_
 rintro i ⟨g1, g2⟩
 unfold c9B
 by_cases hi : i < l.length
 ·have em := e8 a2K l i [] g1 hi
  refine qv ?_
  exact ⟨_, rfl, ⟨by omega, by omega⟩, by omega⟩
 ·exact qt
def c1N (l : List (Int × Int)) (i : Int) : AS := ⟨m7 [(0, a0C false l), (1, a0C false l), (12, iv l.length), (13, iv i)], f7 [], f7 []⟩
theorem b5J (l : List (Int × Int)) (hl : l.length <= 100000000) : FC Tryz.prog 27 none [a0C false l, a0C false l] (fun _ r => r = bv true) := by
 refine fcE Tryz.func27 (aL [[0,1],[0,1,10],[4],[0,1,12,13],[0,1,12,13,14],[0,1,5,12,13],[0,1,12,13,24],[4],[0,1,12,13],[4]]) ?_
 refine qv ?_
 refine l0 (c1N l) (fun i => 0 <= i ∧ i <= l.length) (fun i => (l.length - i).toNat) 0 ⟨by omega, by omega⟩ rfl ?_
 rintro i ⟨g1, g2⟩
 unfold c1N
 by_cases hi : i < l.length
 ·have em := e8 frC l i [] g1 hi
  refine qv ?_
  exact ⟨_, rfl, ⟨by omega, by omega⟩, by omega⟩
 ·exact qt
def d0O (l : List (ByteArray × ByteArray)) (i : Int) : AS := ⟨m7 [(0, .one (.sl false 2 (l.map prC))), (1, .one (.sl false 2 (l.map prC))), (12, iv l.length), (13, iv i)], f7 [], f7 []⟩
theorem c3L (l : List (ByteArray × ByteArray)) (hl : l.length <= 100000000) : FC Tryz.prog 28 none [.one (.sl false 2 (l.map prC)), .one (.sl false 2 (l.map prC))] (fun _ r => r = bv true) := by
 refine fcE Tryz.func28 (aL [[0,1],[0,1,10],[4],[0,1,12,13],[0,1,12,13,14],[0,1,5,12,13],[0,1,12,13,24],[4],[0,1,12,13],[4]]) ?_
 refine qv ?_
 refine l0 (d0O l) (fun i => 0 <= i ∧ i <= l.length) (fun i => (l.length - i).toNat) 0 ⟨by omega, by omega⟩ rfl ?_
 rintro i ⟨g1, g2⟩
 unfold d0O
 by_cases hi : i < l.length
 ·have em := e8 prC l i [] g1 hi
  refine qv ?_
  exact ⟨_, rfl, ⟨by omega, by omega⟩, by omega⟩
 ·exact qt
theorem c9K (L : List Int) (hL : ∀ x ∈ L, I64 x) (hl : L.length <= 9223372036854775807) : FC Tryz.prog 3 none [W0 false L] (fun _ r => r = bv true) := by
 refine fcE Tryz.func3 (aL [[0]] ++ aM [29] [] [[3,29]] ++ aM [8,29] [] [[3,4,5,6,7,8,29]] ++ aM [8] [] [[4,5,6,7,8,9,10],[4,5,6,7,8,9,10,11],[4,5,6,7,8,9,10,11,12,13],[4,5,6,7,8,9,10,11,12,13,14,15],[4,5,6,7,8,9,10,11,12,13,14,15,16,17],[4,5,6,7,8,9,10,11,12,13,14,15,16,17,18,19],[4,5,6,7,8,9,10,11,12,13,14,15,16,17,18,19,20],[4,5,6,7,8,9,10,11,12,13,14,15,16,17,18,19,20,21],[4,5,6,7,8,9,10,12,13,14,15,16,17,18,19,20,21,22]] ++ [⟨(kP [4,5,6,7,8,9,10,12,13,14,15,16,17,18,19,20,21,22,23,24] [8] []),[],[],[(23,1),(24,1)],[]⟩,⟨(kP [4,5,6,7,8,9,10,12,13,14,15,16,17,18,19,20,21,22,23,24,25] [8] []),[],[],[(25,2)],[]⟩,⟨(kP [4,5,6,7,8,9,10,12,13,14,15,16,17,18,19,20,21,22,23,24,25,26] [8] []),[],[],[(26,2)],[]⟩] ++ aM [8] [] [[4,5,6,7,8,9,10,12,13,14,15,16,17,18,19,20,21,22,23,24,25,26,109],[4,5,6,7,8,10,12,13,14,15,16,17,18,19,20,21,22,23,24,25,26],[4,5,6,7,8,10,12,13,14,15,16,17,18,19,20,21,22,23,24,25,26,123],[4,5,8,12,13,14,15,16,17,18,19,20,21,22,23,24,25,26],[4,5,8,12,13,14,15,16,17,18,19,20,21,22,23,24,25,26,131]] ++ aL [[12,13,14,15,16,17,18,19,20,21,22,23,24,25,26],[2]]) ?_
 obtain ⟨⟨p1, r1⟩, ⟨c1, b1, l, h1, h2, rfl⟩, hf1⟩ := a3E L 0 hL hl (by omega) (by omega)
 simp only at b1 c1 hf1
 obtain ⟨⟨p2, r2⟩, ⟨c2, b2, s, h3, h4, rfl⟩, hf2⟩ := a6q 10 (by omega) (by omega) L p1 hL hl (by omega) (by omega)
 simp only at b2 c2 hf2
 obtain ⟨⟨p3, r3⟩, ⟨c3, b3, a, h5, h6, rfl⟩, hf3⟩ := a6b L p2 hL hl (by omega) (by omega)
 simp only at b3 c3 hf3
 have hD : Drw l s a := ⟨h1, h3, h5, h2, fun x hx => by have h := h4 x hx; unfold Ser.sm at h ⊢; omega, h6⟩
 have k1 := a2l l (by omega) h2
 have k2 := a7j s (by omega) (fun x hx => by have h := h4 x hx; unfold Ser.sm at h; omega)
 have k3 := b4r a (by omega) h6
 have k4 := a5z false [afF l, asF s] (by simp)
 rw [show C3 [afF l, asF s] = nuS l s from rfl] at k4
 refine qv ?_
 refine a1B hf1 rfl rfl ?_
 unfold m4
 refine qv ?_
 refine a1B hf2 rfl rfl ?_
 unfold m4
 refine qv ?_
 refine a1B hf3 rfl rfl ?_
 unfold m4
 refine qv ?_
 refine u5 b0O hL hl (by omega) (by omega) ⟨_, 0, by unfold I64; omega, rfl⟩ ?_
 rintro p5 _ b5 c5 ⟨at_, ha5, rfl⟩
 refine ⟨rfl, ?_⟩
 unfold m4
 refine qv ?_
 refine u5 b6m hL hl (by omega) (by omega) ⟨_, 0, 0, by unfold I64; omega, by unfold I64; omega, rfl⟩ ?_
 rintro p6 _ b6 c6 ⟨f, t, hf5, ht5, rfl⟩
 refine ⟨rfl, ?_⟩
 unfold m4
 refine qv ?_
 refine u5 (Q7 false [1, 2, 2, 3, 0] (by simp) (by simp)) hL hl (by omega) (by omega) ⟨_, 1, by simp, rfl⟩ ?_
 rintro p7 _ b7 c7 ⟨m, hm7, rfl⟩
 refine ⟨rfl, ?_⟩
 unfold m4
 refine qv ?_
 refine u5 (Q7 false [1, 10, 40, 100, 0, 604800001] (by simp) (by simp)) hL hl (by omega) (by omega) ⟨_, 1, by simp, rfl⟩ ?_
 rintro p8 _ b8 c8 ⟨n, hn8, rfl⟩
 refine ⟨rfl, ?_⟩
 unfold m4
 clear hL hl c1 b1 c2 b2 c3 b3 b5 c5 b6 c6 b7 c7 b8 c8 ha5 hf5 ht5 hm7 hn8 hf1 hf2 hf3 h2 h4 h6
 have k5 := b5P hD f t m n
 have k6 := b6F hD f t m n
 have k7 := b8Y hD at_ n
 have k8 := b7T hD f t
 have k9 := a2f f t
 have k10 := b6q m n
 have k11 := b5r at_
 have k12 := D5 n 1 604800000
 have e1 : FC Tryz.prog 10 none [W0 false [nuS l s, z8 f t, maF m n]] (fun _ r => r = iv (a5X l s f t m n)) := a5z false _ (by simp)
 have e2 : FC Tryz.prog 10 none [W0 false [nuS l s, ofF a, if 0 <= at_ ∧ at_ <= 345686399999 then 0 else 1, if 1 <= n ∧ n <= 604800000 then 0 else 1]] (fun _ r => r = iv (b5T l s a at_ n)) := a5z false _ (by simp)
 have e3 : FC Tryz.prog 10 none [W0 false [nuS l s, z8 f t]] (fun _ r => r = iv (a2q l s f t)) := a5z false _ (by simp)
 have z1 := d4f hD f t m n
 have z2 := d4V hD at_ n
 have z3 := d3c hD f t
 have q1 := a8v (nuC l s f t m n) (c1W hD f t m n)
 have q2 := b5J (nuF l s f t m n) (c2m hD f t m n)
 have q3 := a8v (nuT l s a at_ n) (c4L hD at_ n)
 have q4 := c3L (nuD l s f t) (c4k hD f t)
 have q5 := a9U
 clear hD
 generalize a5X l s f t m n = E1 at *
 generalize b5T l s a at_ n = E2 at *
 generalize a2q l s f t = E3 at *
 generalize nuC l s f t m n = CH at *
 generalize nuF l s f t m n = FL at *
 generalize nuT l s a at_ n = ST at *
 generalize nuD l s f t = DU at *
 generalize nuS l s = se at *
 generalize afF l = fa at *
 generalize asF s = ft at *
 generalize ofF a = fx at *
 generalize maF m n = mf at *
 generalize z8 f t = wf at *
 generalize (if 0 <= at_ ∧ at_ <= 345686399999 then (0 : Int) else 1) = mE at *
 generalize (if 1 <= n ∧ n <= 604800000 then (0 : Int) else 1) = sE at *
 refine qc k1 ?_
 refine qc k2 ?_
 refine qc k4 ?_
 refine qc k5 ?_
 refine qc k6 ?_
 refine qc k7 ?_
 refine qc k8 ?_
 refine qc k9 ?_
 refine qc k10 ?_
 refine qc e1 ?_
 refine qc k3 ?_
 refine qc k11 ?_
 refine qc k12 ?_
 refine qc e2 ?_
 refine qc k9 ?_
 refine qc e3 ?_
 clear k1 k2 k3 k4 k5 k6 k7 k8 k9 k10 k11 k12 e1 e2 e3
 rcases z1 with ⟨y1, y2, y3⟩ | ⟨y1, rfl, rfl⟩
 all_goals try (have := y2; refine qv ?_; refine m9 y2 (.inl rfl) ?_; simp (maxSteps := 1000000) (disch := omega) only [go_sem]; refine m9 y3 (.inl rfl) ?_; clear y2 y3)
 all_goals
  rcases z2 with ⟨x1, x2⟩ | ⟨x1, rfl⟩
  all_goals try (have := x2; refine qv ?_; refine m9 x2 (.inl rfl) ?_; clear x2)
  all_goals
   rcases z3 with ⟨w1, w2⟩ | ⟨w1, rfl⟩
   all_goals try (have := w2; refine qv ?_; refine m9 w2 (.inl rfl) ?_; clear w2)
   all_goals
    refine qc q1 ?_
    refine qc q2 ?_
    refine qc q3 ?_
    refine qc q4 ?_
    refine qc q5 ?_
    exact qt
end Go.Proofs.YtnlafmigfjlnnaaGreatDoor

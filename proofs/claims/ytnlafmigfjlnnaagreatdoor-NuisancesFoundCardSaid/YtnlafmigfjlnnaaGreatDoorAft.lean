/- What is wrong with alarms. -/
import Derived.Test.YtnlafmigfjlnnaaGreatDoorAlx
set_option linter.all false
set_option maxHeartbeats 0
set_option maxRecDepth 100000
namespace Go.Proofs.YtnlafmigfjlnnaaGreatDoor
open Go Go.Ai
def c9j (l : List Int) (i : Int) : AS := ⟨m7 [(3, iv 0), (6, W0 false l), (7, iv l.length), (8, iv i)], f7 [], f7 []⟩
theorem a4y (l : List Int) (hl : l.length <= 4611686018427387904) : FC Tryz.prog 88 none [W0 false l] (fun _ r => r = iv (C3 l)) := by
 refine fcE Tryz.func88 (aL [[0],[0,3],[3,6,7,8],[3,6,7,8,9],[3,5,6,7,8],[3,5,6,7,8,14],[2],[3,6,7,8],[2]]) ?_
 refine qv ?_
 refine l0 (c9j l) (fun i => 0 <= i ∧ i <= l.length ∧ C3 (l.drop i.toNat) = C3 l) (fun i => (l.length - i).toNat) 0 ⟨by omega, by omega, rfl⟩ rfl ?_
 rintro i ⟨g1, g2, g3⟩
 unfold c9j
 by_cases hi : i < l.length
 ·rw [m5 l i.toNat (by omega), C3] at g3
  have e2 : (i + 1).toNat = i.toNat + 1 := by omega
  by_cases h : l.getD i.toNat default ≠ 0
  ·rw [if_pos h] at g3
   rw [<- g3]
   exact qt
  ·rw [if_neg h] at g3
   refine qv ?_
   exact ⟨i + 1, rfl, ⟨by omega, by omega, by rw [e2]; exact g3⟩, by omega⟩
 ·rw [List.drop_eq_nil_of_le (by omega), C3] at g3
  refine qv ?_
  rw [<- g3]
theorem b1w (x y : Opr) : C3 [a0u x.b y.b, sd y.no x.no] = a2e x y := by
 unfold a2e
 simp only [C3]
 split
 ·rfl
 ·show (if sd y.no x.no ≠ 0 then sd y.no x.no else 0) = sd y.no x.no
  split
  ·rfl
  ·omega
theorem b5r (n : Int) : FC Tryz.prog 20 none [iv n] (fun _ r => r = iv (if 0 <= n ∧ n <= 345686399999 then 0 else 1)) := by
 refine fcE Tryz.func20 (aL [[0],[2]]) ?_
 refine qc (D5 _ _ _) ?_
 exact qt
theorem b7c (x : Opr) (h1 : x.b.size <= 1000) (h2 : x.al.size <= 1000) (h3 : I64 (x.at_ + 1)) : FC Tryz.prog 58 none [.ag (O4 x)] (fun _ r => r = iv (opF x)) := by
 refine fcE Tryz.func58 ([aN [1] [1] [],aN [1,3] [1] [],aN [2] [] [],aN [1,8] [1] [],aN [2] [] [],aN [1,19] [1] [],aN [2] [] [],aN [1,24] [1] [],aN [2] [] [],aN [1,29] [1] []] ++ aL [[2],[42],[2],[2]]) ?_
 unfold I64 at h3
 have hb := a1t x.b (by omega)
 have ha := a1t x.al (by omega)
 simp only [s9]
 refine qc hb ?_
 unfold opF
 cases c1 : l8 x.b with
 | false => rw [if_pos rfl]; simp (maxSteps := 1000000) (disch := omega) only [go_sem]
 | true =>
 rw [if_neg (show ¬(true = false) by simp)]
 refine qc (G0 _ _ _) ?_
 by_cases c2 : x.no < 1 ∨ x.no > 2000
 ·rw [if_pos (.inl c2), decide_eq_false (show ¬(1 <= x.no ∧ x.no <= 2000) by omega)]
  exact qt
 rw [decide_eq_true (show 1 <= x.no ∧ x.no <= 2000 by omega)]
 refine qc (b5r _) ?_
 by_cases c3 : x.at_ < 0 ∨ x.at_ >= 345686400000
 ·rw [if_neg (show ¬(0 <= x.at_ ∧ x.at_ <= 345686399999) by omega), if_pos (.inr c3)]
  exact qt
 rw [if_pos (show 0 <= x.at_ ∧ x.at_ <= 345686399999 by omega), if_neg (show ¬((x.no < 1 ∨ x.no > 2000) ∨ (x.at_ < 0 ∨ x.at_ >= 345686400000)) by omega)]
 refine qc (G0 _ _ _) ?_
 by_cases c4 : x.kd < 1 ∨ x.kd > 3
 ·rw [if_pos c4, decide_eq_false (show ¬(1 <= x.kd ∧ x.kd <= 3) by omega)]
  exact qt
 rw [if_neg c4, decide_eq_true (show 1 <= x.kd ∧ x.kd <= 3 by omega)]
 refine qc ha ?_
 cases c5 : l8 x.al with
 | false => rw [if_pos rfl]; simp (maxSteps := 1000000) (disch := omega) only [go_sem]
 | true =>
 rw [if_neg (show ¬(true = false) by simp)]
 by_cases c6 : x.kd = 2
 ·refine qc (G0 _ _ _) ?_
  by_cases c7 : x.un <= x.at_ ∨ x.un > 345686400000
  ·rw [if_pos ⟨c6, c7⟩, decide_eq_false (show ¬(x.at_ + 1 <= x.un ∧ x.un <= 345686400000) by omega)]
   exact qt
  ·rw [if_neg (fun h => c7 h.2), if_neg (fun h => h.1 c6), decide_eq_true (show x.at_ + 1 <= x.un ∧ x.un <= 345686400000 by omega)]
   exact qt
 ·rw [if_neg (fun h => c6 h.1)]
  by_cases c8 : x.un = 0
  ·rw [if_neg (fun h => h.2 c8)]
   exact qt
  ·rw [if_pos ⟨c6, c8⟩]
   exact qt
theorem c7b (x : Opr) (h1 : x.b.size <= 1000) (h2 : x.al.size <= 1000) : FC Tryz.prog 132 none [.ag (O4 x)] (fun _ r => r = iv (opF x)) := by
 refine fcE Tryz.func132 ([aN [1] [1] [],aN [1,3] [1] [],aN [2] [] [],aN [1,8] [1] [],aN [2] [] [],aN [1,18] [1] [],aN [2] [] [],aN [1,22] [1] [],aN [2] [] [],aN [1,27] [1] []] ++ aL [[2],[43],[2],[2]]) ?_
 have hb := a5r x.b (by omega)
 have ha := a5r x.al (by omega)
 simp only [s9]
 refine qc hb ?_
 unfold opF
 cases c1 : l8 x.b with
 | false => rw [if_pos rfl]; simp (maxSteps := 1000000) (disch := omega) only [go_sem]
 | true =>
 rw [if_neg (show ¬(true = false) by simp)]
 refine qc (D4 _ _ _) ?_
 by_cases c2 : x.no < 1 ∨ x.no > 2000
 ·rw [if_pos (.inl c2), decide_eq_true c2]
  exact qt
 rw [decide_eq_false c2]
 refine qc (P0 _) ?_
 by_cases c3 : x.at_ < 0 ∨ x.at_ >= 345686400000
 ·rw [if_pos (.inr c3), decide_eq_false (show ¬(0 <= x.at_ ∧ x.at_ <= 345686399999) by omega)]
  exact qt
 rw [if_neg (show ¬((x.no < 1 ∨ x.no > 2000) ∨ (x.at_ < 0 ∨ x.at_ >= 345686400000)) by omega), decide_eq_true (show 0 <= x.at_ ∧ x.at_ <= 345686399999 by omega)]
 refine qc (D4 _ _ _) ?_
 by_cases c4 : x.kd < 1 ∨ x.kd > 3
 ·rw [if_pos c4, decide_eq_true c4]
  exact qt
 rw [if_neg c4, decide_eq_false c4]
 refine qc ha ?_
 cases c5 : l8 x.al with
 | false => rw [if_pos rfl]; simp (maxSteps := 1000000) (disch := omega) only [go_sem]
 | true =>
 rw [if_neg (show ¬(true = false) by simp)]
 by_cases c6 : x.kd = 2
 ·by_cases c7 : x.un <= x.at_ ∨ x.un > 345686400000
  ·rw [if_pos ⟨c6, c7⟩]
   by_cases c8 : x.un <= x.at_
   ·exact qt
   ·exact qt
  ·rw [if_neg (fun h => c7 h.2), if_neg (fun h => h.1 c6)]
   exact qt
 ·rw [if_neg (fun h => c6 h.1)]
  by_cases c8 : x.un = 0
  ·rw [if_neg (fun h => h.2 c8)]
   exact qt
  ·rw [if_pos ⟨c6, c8⟩]
   exact qt
theorem b1s (x y : Opr) : FC Tryz.prog 59 none [.ag (O4 x), .ag (O4 y)] (fun _ r => r = iv (a2e x y)) := by
 refine fcE Tryz.func59 [aN [2,3] [2,3] [],aN [4] [] []] ?_
 have ho := a4y [a0u x.b y.b, sd y.no x.no] (by simp)
 rw [b1w] at ho
 generalize a2e x y = e at *
 simp only [s9]
 refine qc (a1i _ _) ?_
 refine qc (s6 _ _) ?_
 refine qc ho ?_
 exact qt
theorem b3l (x y : Opr) : FC Tryz.prog 89 none [.ag (O4 x), .ag (O4 y)] (fun _ r => r = iv (a2e x y)) := by
 refine fcE Tryz.func89 [aN [2,3] [2,3] [],aN [4] [] []] ?_
 have ho := a4y [a0u x.b y.b, sd y.no x.no] (by simp)
 rw [b1w] at ho
 generalize a2e x y = e at *
 simp only [s9]
 refine qc (a1i _ _) ?_
 refine qc (s6 _ _) ?_
 refine qc ho ?_
 exact qt
def b9M (l : List Opr) (i : Nat) : Option Opr := if i = 0 then none else some (l.getD (i - 1) default)
theorem B5 (l : List Opr) (i : Nat) : b9M l (i + 1) = some (l.getD i default) := rfl
theorem a3x {l : List Opr} {i : Int} (h : 0 < i) : b9M l i.toNat = some (l.getD (i - 1).toNat default) := by
 unfold b9M; rw [if_neg (by omega), show i.toNat - 1 = (i - 1).toNat by omega]
def d2x (l : List Opr) (late : Bool) (i : Int) : AS := ⟨m7 [(0, F7 false l), (3, bv late), (10, F7 false l), (11, iv l.length), (12, iv i)], f7 [], f7 []⟩
def Opr.sm (x : Opr) : Prop := x.b.size <= 1000 ∧ x.al.size <= 1000 ∧ I64 (x.at_ + 1)
theorem b4r (l : List Opr) (hl : l.length <= 1000000) (hsm : ∀ x ∈ l, x.sm) : FC Tryz.prog 19 none [F7 false l] (fun _ r => r = iv (ofF l)) := by
 refine fcE Tryz.func19 (aL [[0],[0,9],[2],[0,3],[0,3,10,11,12],[0,3,10,11,12,13]] ++ aM [5] [] [[0,3,4,5,10,11,12],[0,3,4,5,6,10,11,12],[0,3,4,5,6,10,11,12,20]] ++ aL [[2]] ++ aM [5] [] [[0,3,4,5,10,11,12,23],[0,3,4,5,10,11,12,31]] ++ aL [[2],[0,3,10,11,12],[0,3,10,11,12],[56],[2],[2]]) ?_
 unfold ofF
 by_cases c0 : l.length > 2000
 ·rw [if_pos c0]
  exact qt
 rw [if_neg c0]
 refine qv ?_
 refine j7 (fun (late : Bool) i => d2x l late i) (fun late i => 0 <= i ∧ i <= l.length ∧ a5W (b9M l i.toNat) (l.drop i.toNat) = a5W none l ∧ (late || b0L (b9M l i.toNat) (l.drop i.toNat)) = b0L none l) (fun _ i => (l.length - i).toNat) false 0 ⟨by omega, by omega, rfl, rfl⟩ rfl ?_
 rintro late i ⟨g1, g2, g3, g4⟩
 unfold d2x
 by_cases hi : i < l.length
 ·have e2 : (i + 1).toNat = i.toNat + 1 := by omega
  have hm := hsm _ (f8 l i.toNat (by omega))
  unfold Opr.sm at hm
  rw [m5 l i.toNat (by omega), a5W, <- e2] at g3
  rw [m5 l i.toNat (by omega), b0L, <- e2] at g4
  have hc := b7c (l.getD i.toNat default) hm.1 hm.2.1 hm.2.2
  rw [s9] at hc
  by_cases c1 : opF (l.getD i.toNat default) ≠ 0
  ·rw [if_pos c1] at g3
   rw [<- g3, if_pos c1]
   refine qcs hc ?_
   exact qts
  ·rw [if_neg c1] at g3
   by_cases hi0 : 0 < i
   ·have ep := e8 O4 l (i - 1) [] (by omega) (by omega)
    rw [a3x hi0] at g3 g4
    have ho := b1s (l.getD (i - 1).toNat default) (l.getD i.toNat default)
    rw [s9, s9] at ho
    by_cases c2 : 0 <= a2e (l.getD (i - 1).toNat default) (l.getD i.toNat default)
    ·rw [if_pos (show c0V (some (l.getD (i - 1).toNat default)) (l.getD i.toNat default) = true from decide_eq_true c2)] at g3
     rw [<- g3, if_pos (by omega)]
     refine qcs hc ?_
     refine qcs ho ?_
     exact qts
    ·rw [if_neg (show ¬(c0V (some (l.getD (i - 1).toNat default)) (l.getD i.toNat default) = true) from fun h => c2 (of_decide_eq_true h))] at g3
     have el : b1x (some (l.getD (i - 1).toNat default)) (l.getD i.toNat default) = decide ((l.getD (i - 1).toNat default).b = (l.getD i.toNat default).b ∧ (l.getD i.toNat default).at_ < (l.getD (i - 1).toNat default).at_) := rfl
     rw [el] at g4
     cases late with
     | true =>
      refine qcs hc ?_
      refine qcs ho ?_
      refine qvs ?_
      exact ⟨true, i + 1, rfl, ⟨by omega, by omega, by rw [e2, B5, <- e2]; exact g3, by rw [Bool.true_or] at g4 ⊢; exact g4⟩, by omega⟩
     | false =>
      by_cases c3 : (l.getD (i - 1).toNat default).b = (l.getD i.toNat default).b
      ·by_cases c4 : (l.getD i.toNat default).at_ < (l.getD (i - 1).toNat default).at_
       ·rw [decide_eq_true (p := (l.getD (i - 1).toNat default).b = (l.getD i.toNat default).b ∧ (l.getD i.toNat default).at_ < (l.getD (i - 1).toNat default).at_) ⟨c3, c4⟩] at g4
        refine qcs hc ?_
        refine qcs ho ?_
        refine qvs ?_
        exact ⟨_, i + 1, rfl, ⟨by omega, by omega, by rw [e2, B5, <- e2]; exact g3, by rw [decide_eq_true c4, e2, B5, <- e2]; exact g4⟩, by omega⟩
       ·rw [decide_eq_false (p := (l.getD (i - 1).toNat default).b = (l.getD i.toNat default).b ∧ (l.getD i.toNat default).at_ < (l.getD (i - 1).toNat default).at_) (fun h => c4 h.2)] at g4
        refine qcs hc ?_
        refine qcs ho ?_
        refine qvs ?_
        exact ⟨_, i + 1, rfl, ⟨by omega, by omega, by rw [e2, B5, <- e2]; exact g3, by rw [decide_eq_false c4, e2, B5, <- e2]; exact g4⟩, by omega⟩
      ·rw [decide_eq_false (p := (l.getD (i - 1).toNat default).b = (l.getD i.toNat default).b ∧ (l.getD i.toNat default).at_ < (l.getD (i - 1).toNat default).at_) (fun h => c3 h.1)] at g4
       refine qcs hc ?_
       refine qcs ho ?_
       refine qvs ?_
       exact ⟨false, i + 1, rfl, ⟨by omega, by omega, by rw [e2, B5, <- e2]; exact g3, by rw [e2, B5, <- e2]; exact g4⟩, by omega⟩
   ·have e0 : i = 0 := by omega
    subst e0
    rw [show b9M l (Int.toNat 0) = none from rfl] at g3 g4
    rw [if_neg (by simp [c0V])] at g3
    rw [show b1x none (l.getD (Int.toNat 0) default) = false from rfl, Bool.false_or] at g4
    refine qcs hc ?_
    refine qvs ?_
    exact ⟨late, 1, rfl, ⟨by omega, by omega, g3, g4⟩, by omega⟩
 ·rw [List.drop_eq_nil_of_le (by omega), a5W] at g3
  rw [List.drop_eq_nil_of_le (by omega), b0L, Bool.or_false] at g4
  rw [if_neg (show ¬(a5W none l ≠ 0) by omega), <- g4]
  cases late with
  | true => exact qt
  | false => exact qt
structure b1X (a : List Opr) : Prop where
 len : a.length <= 2000
 flt : ∀ i, i < a.length -> opF (a.getD i default) = 0
 up : ∀ i, i + 1 < a.length -> a2e (a.getD i default) (a.getD (i + 1) default) < 0
 tm : ∀ i, i + 1 < a.length -> ¬((a.getD i default).b = (a.getD (i + 1) default).b ∧ (a.getD (i + 1) default).at_ < (a.getD i default).at_)
theorem b3y : ∀ (l : List Opr) (pv : Option Opr), a5W pv l = 0 -> (∀ i, i < l.length -> opF (l.getD i default) = 0) ∧ (∀ i, i + 1 < l.length -> a2e (l.getD i default) (l.getD (i + 1) default) < 0) ∧ (∀ q, pv = some q -> 0 < l.length -> a2e q (l.getD 0 default) < 0)
 | [], pv, _ => ⟨fun i h => by simp at h, fun i h => by simp at h, fun q _ h => by simp at h⟩
 | x :: r, pv, h => by
  rw [a5W] at h
  by_cases c1 : opF x ≠ 0
  ·rw [if_pos c1] at h; exact absurd h c1
  ·rw [if_neg c1] at h
   by_cases c2 : c0V pv x = true
   ·rw [if_pos c2] at h; omega
   ·rw [if_neg c2] at h
    obtain ⟨h1, h2, h3⟩ := b3y r (some x) h
    refine ⟨fun i hi => ?_, fun i hi => ?_, fun q hq _ => ?_⟩
    ·cases i with
     | zero => simpa using c1
     | succ i => simpa using h1 i (by simpa using hi)
    ·cases i with
     | zero => simpa using h3 x rfl (by simpa using hi)
     | succ i => simpa using h2 i (by simpa using hi)
    ·subst hq
     simpa [c0V] using c2
theorem b1U : ∀ (l : List Opr) (pv : Option Opr), b0L pv l = false -> (∀ i, i + 1 < l.length -> ¬((l.getD i default).b = (l.getD (i + 1) default).b ∧ (l.getD (i + 1) default).at_ < (l.getD i default).at_)) ∧ (∀ q, pv = some q -> 0 < l.length -> ¬(q.b = (l.getD 0 default).b ∧ (l.getD 0 default).at_ < q.at_))
 | [], pv, _ => ⟨fun i h => by simp at h, fun q _ h => by simp at h⟩
 | x :: r, pv, h => by
  rw [b0L, Bool.or_eq_false_iff] at h
  obtain ⟨h1, h2⟩ := b1U r (some x) h.2
  refine ⟨fun i hi => ?_, fun q hq _ => ?_⟩
  ·cases i with
   | zero => simpa using h2 x rfl (by simpa using hi)
   | succ i => simpa using h1 i (by simpa using hi)
  ·subst hq
   have := of_decide_eq_false h.1
   simpa using this
theorem b6J {a : List Opr} (h : ofF a = 0) : b1X a := by
 unfold ofF at h
 by_cases c1 : a.length > 2000
 ·rw [if_pos c1] at h; omega
 rw [if_neg c1] at h
 by_cases c2 : a5W none a ≠ 0
 ·rw [if_pos c2] at h; exact absurd h c2
 rw [if_neg c2] at h
 by_cases c3 : b0L none a = true
 ·rw [if_pos c3] at h; omega
 obtain ⟨h1, h2, _⟩ := b3y a none (by omega)
 obtain ⟨h3, _⟩ := b1U a none (by simpa using c3)
 exact ⟨by omega, h1, h2, h3⟩
def c8e (l : List Opr) (i : Int) : AS := ⟨m7 [(0, F7 false l), (12, F7 false l), (13, iv l.length), (14, iv i)], f7 [], f7 []⟩
def c8C (l : List Opr) (i : Int) : AS := ⟨m7 [(0, F7 false l), (36, F7 false l), (37, iv l.length), (38, iv i)], f7 [], f7 []⟩
theorem a5V (l : List Opr) : b9M l (Int.toNat 0) = none := rfl
theorem a3a (l : List Opr) (hl : l.length <= 1000000) (hsm : ∀ x ∈ l, x.sm) : FC Tryz.prog 83 none [F7 false l] (fun _ r => r = iv (ofF l)) := by
 refine fcE Tryz.func83 (aL [[0],[0,11],[2],[0,12,13,14],[0,12,13,14,15]] ++ aM [4] [] [[0,3,4,12,13,14],[0,3,4,5,12,13,14],[0,3,4,5,12,13,14,22]] ++ [aN [2] [] [],aN [0,3,4,12,13,14,25] [4] [],aN [0,4,6,12,13,14] [4,6] []] ++ aL [[0,12,13,14,34],[2],[0,12,13,14],[0,36,37,38],[0,36,37,38,39]] ++ [aN [0,7,8,36,37,38] [8] []] ++ aL [[0,36,37,38,66],[2],[0,36,37,38],[2]]) ?_
 unfold ofF
 by_cases c0 : l.length > 2000
 ·rw [if_pos c0]
  exact qt
 rw [if_neg c0]
 refine qv ?_
 refine l0 (c8e l) (fun i => 0 <= i ∧ i <= l.length ∧ a5W (b9M l i.toNat) (l.drop i.toNat) = a5W none l) (fun i => (l.length - i).toNat) 0 ⟨by omega, by omega, rfl⟩ rfl ?_
 rintro i ⟨g1, g2, g3⟩
 unfold c8e
 by_cases hi : i < l.length
 ·have em := e8 O4 l i [] g1 hi
  have e2 : (i + 1).toNat = i.toNat + 1 := by omega
  have hm := hsm _ (f8 l i.toNat (by omega))
  unfold Opr.sm at hm
  rw [m5 l i.toNat (by omega), a5W, <- e2] at g3
  have hc := c7b (l.getD i.toNat default) hm.1 hm.2.1
  rw [s9] at hc
  by_cases c1 : opF (l.getD i.toNat default) ≠ 0
  ·rw [if_pos c1] at g3
   rw [<- g3, if_pos c1]
   refine qcs hc ?_
   exact qts
  ·rw [if_neg c1] at g3
   by_cases hi0 : 0 < i
   ·have ep := e8 O4 l (i - 1) [] (by omega) (by omega)
    have ho := b3l (l.getD i.toNat default) (l.getD (i - 1).toNat default)
    rw [a3x hi0] at g3
    have han := b2M (l.getD i.toNat default) (l.getD (i - 1).toNat default)
    have hob : c0V (some (l.getD (i - 1).toNat default)) (l.getD i.toNat default) = decide (0 <= a2e (l.getD (i - 1).toNat default) (l.getD i.toNat default)) := rfl
    rw [hob] at g3
    rw [s9, s9] at ho
    generalize a2e (l.getD (i - 1).toNat default) (l.getD i.toNat default) = e' at *
    generalize a2e (l.getD i.toNat default) (l.getD (i - 1).toNat default) = e at *
    by_cases c2 : 0 <= e'
    ·rw [if_pos (decide_eq_true c2)] at g3
     rw [<- g3, if_pos (by omega)]
     refine qcs hc ?_
     refine qcs ho ?_
     exact qts
    ·rw [if_neg (by simpa using c2)] at g3
     refine qcs hc ?_
     refine qcs ho ?_
     refine qvs ?_
     exact ⟨i + 1, rfl, ⟨by omega, by omega, by rw [e2, B5, <- e2]; exact g3⟩, by omega⟩
   ·have e0 : i = 0 := by omega
    subst e0
    rw [a5V, if_neg (by simp [c0V])] at g3
    refine qcs hc ?_
    refine qvs ?_
    exact ⟨1, rfl, ⟨by omega, by omega, g3⟩, by omega⟩
 ·rw [List.drop_eq_nil_of_le (by omega), a5W] at g3
  rw [if_neg (show ¬(a5W none l ≠ 0) by omega)]
  refine qv ?_
  refine l0 (c8C l) (fun i => 0 <= i ∧ i <= l.length ∧ b0L (b9M l i.toNat) (l.drop i.toNat) = b0L none l) (fun i => (l.length - i).toNat) 0 ⟨by omega, by omega, rfl⟩ rfl ?_
  rintro i ⟨g1, g2, g3⟩
  unfold c8C
  by_cases hi : i < l.length
  ·have em := e8 O4 l i [] g1 hi
   have e2 : (i + 1).toNat = i.toNat + 1 := by omega
   rw [m5 l i.toNat (by omega), b0L, <- e2] at g3
   by_cases hi0 : 0 < i
   ·have ep := e8 O4 l (i - 1) [] (by omega) (by omega)
    rw [a3x hi0] at g3
    have el : b1x (some (l.getD (i - 1).toNat default)) (l.getD i.toNat default) = decide ((l.getD (i - 1).toNat default).b = (l.getD i.toNat default).b ∧ (l.getD i.toNat default).at_ < (l.getD (i - 1).toNat default).at_) := rfl
    rw [el] at g3
    by_cases c1 : (l.getD i.toNat default).b = (l.getD (i - 1).toNat default).b
    ·by_cases c2 : (l.getD i.toNat default).at_ < (l.getD (i - 1).toNat default).at_
     ·rw [decide_eq_true (p := (l.getD (i - 1).toNat default).b = (l.getD i.toNat default).b ∧ (l.getD i.toNat default).at_ < (l.getD (i - 1).toNat default).at_) ⟨c1.symm, c2⟩, Bool.true_or] at g3
      rw [<- g3, if_pos rfl]
      exact qts
     ·rw [decide_eq_false (p := (l.getD (i - 1).toNat default).b = (l.getD i.toNat default).b ∧ (l.getD i.toNat default).at_ < (l.getD (i - 1).toNat default).at_) (fun h => c2 h.2), Bool.false_or] at g3
      refine qvs ?_
      exact ⟨i + 1, rfl, ⟨by omega, by omega, by rw [e2, B5, <- e2]; exact g3⟩, by omega⟩
    ·rw [decide_eq_false (p := (l.getD (i - 1).toNat default).b = (l.getD i.toNat default).b ∧ (l.getD i.toNat default).at_ < (l.getD (i - 1).toNat default).at_) (fun h => c1 h.1.symm), Bool.false_or] at g3
     refine qvs ?_
     exact ⟨i + 1, rfl, ⟨by omega, by omega, by rw [e2, B5, <- e2]; exact g3⟩, by omega⟩
   ·have e0 : i = 0 := by omega
    subst e0
    rw [a5V, show b1x none (l.getD (Int.toNat 0) default) = false from rfl, Bool.false_or] at g3
    refine qvs ?_
    exact ⟨1, rfl, ⟨by omega, by omega, g3⟩, by omega⟩
  ·rw [List.drop_eq_nil_of_le (by omega), b0L] at g3
   rw [<- g3, if_neg (by simp)]
   exact qt
theorem a6p (l : List Alm) (hl : l.length <= 200) (hup : a0w Alm.k l) (hpar : ∀ x ∈ l, x.p ≠ emp -> 0 <= v7 l x.p ∧ v7 l x.p < l.length) (x : Alm) (hx : x ∈ l) : FC Tryz.prog 84 none [r6 false l, .ag (D0 x)] (fun _ r => r = W0 true (G9 l (l.length + 1) x)) := by
 refine fcE Tryz.func84 a0q ?_
 simp only [j9]
 refine qv ?_
 refine j7 (fun (y : Alm) (out : List Int) => b0M l y out) (fun y out => y ∈ l ∧ out.length <= l.length + 1 ∧ out ++ G9 l (l.length + 1 - out.length) y = G9 l (l.length + 1) x) (fun _ out => l.length + 1 - out.length) x [] ⟨hx, by simp, by simp⟩ ?_ ?_
 ·unfold b0M
  simp only [j9, List.map_nil, AS.mk.injEq]
  refine ⟨?_, trivial, ?_⟩
  ·funext n
   simp only [a1F, a1e, a3B]
   by_cases h5 : n = 5
   ·subst h5; rfl
   ·simp only [h5, if_false]
  ·funext n; rfl
 rintro y out ⟨h1, h2, h3⟩
 unfold b0M
 by_cases c1 : y.p = emp
 ·have e : G9 l (l.length + 1 - out.length) y = [] := by
   cases hn : l.length + 1 - out.length with
   | zero => rfl
   | succ n => rw [G9, if_pos c1]
  rw [e, List.append_nil] at h3
  rw [<- h3]
  have c1' : ¬¬y.p = emp := fun h => h c1
  exact qts
 ·by_cases c2 : out.length <= l.length
  ·have hix := hpar y h1 c1
   have hc := a3o y.p l (by omega) hup
   have hpm : a3l l y ∈ l := f8 l _ (by omega)
   rw [show l.length + 1 - out.length = (l.length + 1 - (out ++ [v7 l y.p]).length) + 1 by simp; omega, G9, if_neg c1] at h3
   have epo : a3l l y = l.getD (v7 l y.p).toNat default := rfl
   rw [epo] at h3 hpm
   refine qcs hc ?_
   refine qvs ?_
   refine ⟨l.getD (v7 l y.p).toNat default, out ++ [v7 l y.p], ?_, ⟨hpm, by simp; omega, ?_⟩, by simp; omega⟩
   ·simp only [j9, List.map_append, List.map_cons, List.map_nil, a0i]
   ·rw [List.append_assoc, List.singleton_append]; exact h3
  ·rw [show l.length + 1 - out.length = 0 by omega, G9, List.append_nil] at h3
   rw [<- h3]
   exact qts
theorem a1u (l : List Alm) (hl0 : l.length <= 1000000) (hsm : ∀ x ∈ l, x.k.size <= 1000000 ∧ x.t.size <= 1000000) : FC Tryz.prog 81 none [r6 false l] (fun _ r => r = iv (caF l)) := by
 refine fcE Tryz.func81 a0B ?_
 unfold caF
 by_cases hl : l.length > 200
 ·rw [if_pos hl]
  exact qts
 rw [if_neg hl]
 refine qvs ?_
 refine l0 (c8v l) (fun i => 0 <= i ∧ i <= l.length ∧ a2v (b6s l i.toNat) (l.drop i.toNat) = a2v none l) (fun i => (l.length - i).toNat) 0 ⟨by omega, by omega, rfl⟩ rfl ?_
 rintro i ⟨g1, g2, g3⟩
 unfold c8v
 by_cases hi : i < l.length
 ·have e2 : (i + 1).toNat = i.toNat + 1 := by omega
  have hm := hsm _ (f8 l i.toNat (by omega))
  rw [m5 l i.toNat (by omega), a2v, <- e2] at g3
  have hc := X2 (l.getD i.toNat default).k (l.getD i.toNat default).t (l.getD i.toNat default).p (l.getD i.toNat default).lt (by omega) (by omega) (l.getD i.toNat default).kd (l.getD i.toNat default).lim (l.getD i.toNat default).db (l.getD i.toNat default).on (l.getD i.toNat default).off (l.getD i.toNat default).pr
  rw [show a4l (l8 (l.getD i.toNat default).k && l8 (l.getD i.toNat default).t) (l.getD i.toNat default).kd (l.getD i.toNat default).lim (l.getD i.toNat default).db (l.getD i.toNat default).on (l.getD i.toNat default).off (l.getD i.toNat default).pr = (l.getD i.toNat default).flt from rfl] at hc
  by_cases c1 : (l.getD i.toNat default).flt ≠ 0
  ·rw [if_pos c1] at g3
   rw [<- g3, if_pos c1]
   refine qcs hc ?_
   exact qts
  ·rw [if_neg c1] at g3
   by_cases hi0 : 0 < i
   ·have ep := e8 D0 l (i - 1) [] (by omega) (by omega)
    have e4 : b6s l i.toNat = some (l.getD (i - 1).toNat default).k := by
     unfold b6s; rw [if_neg (by omega)]
     rw [show i.toNat - 1 = (i - 1).toNat by omega]
    rw [e4] at g3
    have ho := a8u (a := (l.getD i.toNat default).k) (b := (l.getD (i - 1).toNat default).k)
    by_cases c2 : ltS (l.getD (i - 1).toNat default).k (l.getD i.toNat default).k
    ·rw [if_neg (show ¬(D7 (some (l.getD (i - 1).toNat default).k) (l.getD i.toNat default).k = true) from fun h => (of_decide_eq_true h) c2)] at g3
     have h5 : ¬(ltS (l.getD i.toNat default).k (l.getD (i - 1).toNat default).k ∨ (l.getD i.toNat default).k = (l.getD (i - 1).toNat default).k) := fun h => (ho.1 h) c2
     have hd := decide_eq_false h5
     refine qcs hc ?_
     refine qvs ?_
     exact ⟨i + 1, rfl, ⟨by omega, by omega, by rw [e2, a4w, <- e2]; exact g3⟩, by omega⟩
    ·rw [if_pos (show D7 (some (l.getD (i - 1).toNat default).k) (l.getD i.toNat default).k = true from decide_eq_true c2)] at g3
     have h5 := ho.2 c2
     rw [<- g3, if_pos (by omega)]
     refine qcs hc ?_
     exact qts
   ·have e0 : i = 0 := by omega
    subst e0
    rw [show b6s l (Int.toNat 0) = none from rfl, if_neg (by simp [D7])] at g3
    refine qcs hc ?_
    refine qvs ?_
    exact ⟨1, rfl, ⟨by omega, by omega, g3⟩, by omega⟩
 ·rw [List.drop_eq_nil_of_le (by omega), a2v] at g3
  rw [if_neg (show ¬(a2v none l ≠ 0) by omega)]
  obtain ⟨hflt, hadj, _⟩ := a4q l none g3.symm
  have hup := S5 hadj
  refine qvs ?_
  refine l0 (c9S l) (fun i => 0 <= i ∧ i <= l.length ∧ (l.drop i.toNat).any (P7 l) = l.any (P7 l)) (fun i => (l.length - i).toNat) 0 ⟨by omega, by omega, rfl⟩ rfl ?_
  rintro i ⟨g1, g2, g3⟩
  unfold c9S
  by_cases hi : i < l.length
  ·have e2 : (i + 1).toNat = i.toNat + 1 := by omega
   rw [m5 l i.toNat (by omega), List.any_cons, <- e2] at g3
   have hc := a3o (l.getD i.toNat default).p l (by omega) hup
   by_cases c1 : (l.getD i.toNat default).p = emp
   ·rw [show P7 l (l.getD i.toNat default) = false from decide_eq_false (fun h => h.1 c1), Bool.false_or] at g3
    have c1' : ¬¬(l.getD i.toNat default).p = emp := fun h => h c1
    refine qvs ?_
    exact ⟨i + 1, rfl, ⟨by omega, by omega, g3⟩, by omega⟩
   ·by_cases c2 : v7 l (l.getD i.toNat default).p < 0
    ·rw [show P7 l (l.getD i.toNat default) = true from decide_eq_true ⟨c1, c2⟩, Bool.true_or] at g3
     rw [if_pos g3.symm]
     refine qcs hc ?_
     exact qts
    ·rw [show P7 l (l.getD i.toNat default) = false from decide_eq_false (fun h => c2 h.2), Bool.false_or] at g3
     refine qcs hc ?_
     refine qvs ?_
     exact ⟨i + 1, rfl, ⟨by omega, by omega, g3⟩, by omega⟩
  ·rw [List.drop_eq_nil_of_le (by omega), List.any_nil] at g3
   have hno : ∀ x ∈ l, x.p ≠ emp -> 0 <= v7 l x.p ∧ v7 l x.p < l.length := fun x hx hp => by
    rcases S3 l x.p with h | h
    ·have : l.any (P7 l) = true := List.any_eq_true.2 ⟨x, hx, decide_eq_true (p := x.p ≠ emp ∧ v7 l x.p < 0) ⟨hp, by omega⟩⟩
     rw [<- g3] at this
     cases this
    ·exact h
   rw [if_neg (by rw [<- g3]; simp)]
   clear g3
   refine qvs ?_
   refine l0 (c9A l) (fun i => 0 <= i ∧ i <= l.length ∧ ((l.drop i.toNat).any fun x => decide ((G9 l (l.length + 1) x).length > l.length)) = (l.any fun x => decide ((G9 l (l.length + 1) x).length > l.length))) (fun i => (l.length - i).toNat) 0 ⟨by omega, by omega, rfl⟩ rfl ?_
   rintro i ⟨g1, g2, g3⟩
   unfold c9A
   by_cases hi : i < l.length
   ·have e2 : (i + 1).toNat = i.toNat + 1 := by omega
    have hxm := f8 l i.toNat (by omega)
    rw [m5 l i.toNat (by omega), List.any_cons, <- e2] at g3
    have hc := a6p l (by omega) hup hno _ hxm
    have hpl := a0U l (l.length + 1) (l.getD i.toNat default)
    rw [j9] at hc
    generalize G9 l (l.length + 1) (l.getD i.toNat default) = A at hc g3 hpl
    by_cases c3 : A.length > l.length
    ·rw [decide_eq_true c3, Bool.true_or] at g3
     rw [if_pos g3.symm]
     refine qcs hc ?_
     exact qts
    ·rw [decide_eq_false c3, Bool.false_or] at g3
     refine qcs hc ?_
     refine qvs ?_
     exact ⟨i + 1, rfl, ⟨by omega, by omega, g3⟩, by omega⟩
   ·rw [List.drop_eq_nil_of_le (by omega), List.any_nil] at g3
    rw [if_neg (by rw [<- g3]; simp)]
    exact qts
theorem a5m (l : List Ser) (hl : l.length <= 1000000) (hsm : ∀ x ∈ l, x.t.size <= 1000 ∧ x.l.length <= 1000000) : FC Tryz.prog 82 none [B1 false l] (fun _ r => r = iv (asF l)) := by
 refine fcE Tryz.func82 a3j ?_
 unfold asF
 by_cases c0 : l.length > 200
 ·rw [if_pos c0]
  exact qt
 rw [if_neg c0]
 refine qv ?_
 refine l0 (a8q l) (fun i => 0 <= i ∧ i <= l.length ∧ b0Y (b5H l i.toNat) (l.drop i.toNat) = b0Y none l) (fun i => (l.length - i).toNat) 0 ⟨by omega, by omega, rfl⟩ rfl ?_
 rintro i ⟨g1, g2, g3⟩
 unfold a8q
 by_cases hi : i < l.length
 ·have e2 : (i + 1).toNat = i.toNat + 1 := by omega
  have hm := hsm _ (f8 l i.toNat (by omega))
  rw [m5 l i.toNat (by omega), b0Y, <- e2] at g3
  have hk := a5r (l.getD i.toNat default).t (by omega)
  have hs := U0 (l.getD i.toNat default).l (by omega)
  cases c1 : l8 (l.getD i.toNat default).t with
  | false =>
   rw [c1] at hk
   rw [if_pos c1] at g3
   rw [<- g3]
   refine qcs hk ?_
   exact qts
  | true =>
   rw [c1] at hk
   rw [if_neg (by rw [c1]; simp)] at g3
   by_cases hi0 : 0 < i
   ·have ep := e8 (b5u true) l (i - 1) [] (by omega) (by omega)
    have e4 : b5H l i.toNat = some (l.getD (i - 1).toNat default).t := by
     unfold b5H; rw [if_neg (by omega)]
     rw [show i.toNat - 1 = (i - 1).toNat by omega]
    rw [e4] at g3
    have ho := a8u (a := (l.getD i.toNat default).t) (b := (l.getD (i - 1).toNat default).t)
    by_cases c2 : ltS (l.getD (i - 1).toNat default).t (l.getD i.toNat default).t
    ·rw [if_neg (show ¬(D7 (some (l.getD (i - 1).toNat default).t) (l.getD i.toNat default).t = true) from fun h => (of_decide_eq_true h) c2)] at g3
     have h5 : ¬(ltS (l.getD i.toNat default).t (l.getD (i - 1).toNat default).t ∨ (l.getD i.toNat default).t = (l.getD (i - 1).toNat default).t) := fun h => (ho.1 h) c2
     by_cases c3 : n6 (l.getD i.toNat default).l ≠ 0
     ·rw [if_pos c3] at g3
      rw [<- g3]
      refine qcs hk ?_
      refine qcs hs ?_
      exact qts
     ·rw [if_neg c3] at g3
      refine qcs hk ?_
      refine qcs hs ?_
      refine qvs ?_
      exact ⟨i + 1, rfl, ⟨by omega, by omega, by rw [e2, a5H, <- e2]; exact g3⟩, by omega⟩
    ·rw [if_pos (show D7 (some (l.getD (i - 1).toNat default).t) (l.getD i.toNat default).t = true from decide_eq_true c2)] at g3
     have h5 := ho.2 c2
     rw [<- g3]
     refine qcs hk ?_
     exact qts
   ·have e0 : i = 0 := by omega
    subst e0
    rw [show b5H l (Int.toNat 0) = none from rfl, if_neg (by simp [D7])] at g3
    by_cases c3 : n6 (l.getD (Int.toNat 0) default).l ≠ 0
    ·rw [if_pos c3] at g3
     rw [<- g3]
     refine qcs hk ?_
     refine qcs hs ?_
     exact qts
    ·rw [if_neg c3] at g3
     refine qcs hk ?_
     refine qcs hs ?_
     refine qvs ?_
     exact ⟨1, rfl, ⟨by omega, by omega, g3⟩, by omega⟩
 ·rw [List.drop_eq_nil_of_le (by omega), b0Y] at g3
  rw [<- g3]
  exact qt
/-! ### what the program says of alarms is what the reference says -/
theorem c0T (l : List Alm) (k : ByteArray) : ∀ (n : Nat) (x : Alm), lpR l k n x = true -> ∃ j, j < n ∧ (∀ i, i <= j -> (itr l i x).p ≠ emp) ∧ (itr l (j + 1) x).k = k
 | 0, x, h => by simp [lpR] at h
 | n + 1, x, h => by
  rw [lpR] at h
  by_cases c : x.p = emp
  ·rw [if_pos c] at h; cases h
  ·rw [if_neg c] at h
   by_cases c2 : (a3l l x).k = k
   ·exact ⟨0, by omega, fun i hi => by rw [show i = 0 by omega]; exact c, c2⟩
   ·rw [if_neg c2] at h
    obtain ⟨j, h1, h2, h3⟩ := c0T l k n _ h
    refine ⟨j + 1, by omega, fun i hi => ?_, h3⟩
    cases i with
    | zero => exact c
    | succ i => exact h2 i (by omega)
theorem a5g (l : List Alm) : ∀ (n : Nat) (x : Alm), (∀ j, j < n -> (itr l j x).p ≠ emp) -> (G9 l n x).length = n
 | 0, x, _ => rfl
 | n + 1, x, h => by
  have h0 : x.p ≠ emp := h 0 (by omega)
  rw [G9, if_neg h0, List.length_cons, a5g l n _ fun j hj => h (j + 1) (by omega)]
theorem c9k (l : List Alm) : caF l = afF l := by
 by_cases h0 : afF l = 0
 ·rw [h0, c1i h0]
 unfold afF at h0 ⊢
 unfold caF
 by_cases c1 : l.length > 200
 ·rw [if_pos c1, if_pos c1]
 rw [if_neg c1] at h0 ⊢
 rw [if_neg c1]
 by_cases c2 : a2v none l ≠ 0
 ·rw [if_pos c2, if_pos c2]
 rw [if_neg c2] at h0 ⊢
 rw [if_neg c2]
 by_cases c3 : l.any (P7 l) = true
 ·rw [if_pos c3, if_pos c3]
 rw [if_neg c3] at h0 ⊢
 rw [if_neg c3]
 by_cases c4 : (l.any fun x => lpR l x.k l.length x) = true
 ·rw [if_pos c4, if_pos]
  obtain ⟨x, hx, hlp⟩ := List.any_eq_true.1 c4
  obtain ⟨j, h1, h2, h3⟩ := c0T l x.k l.length x hlp
  obtain ⟨_, hadj, _⟩ := a4q l none (by omega)
  have hup := S5 hadj
  have hno : ∀ y ∈ l, y.p ≠ emp -> a3l l y ∈ l := fun y hy hyp => by
   rcases S3 l y.p with h1 | h1
   ·exact absurd (List.any_eq_true.2 ⟨y, hy, decide_eq_true ⟨hyp, by omega⟩⟩) c3
   ·exact f8 l _ (by omega)
  have hmem : ∀ i, i <= j + 1 -> itr l i x ∈ l := fun i => by
   induction i with
   | zero => intro _; exact hx
   | succ i ih => intro hi; rw [X1]; exact hno _ (ih (by omega)) (h2 i (by omega))
  have huniq : ∀ y ∈ l, ∀ z ∈ l, y.k = z.k -> y = z := fun y hy z hz e => by
   obtain ⟨a, ha, rfl⟩ := List.getElem_of_mem hy
   obtain ⟨b, hb, rfl⟩ := List.getElem_of_mem hz
   have ea : l.getD a default = l[a] := by simp [List.getD, ha]
   have eb : l.getD b default = l[b] := by simp [List.getD, hb]
   rcases Nat.lt_trichotomy a b with h | h | h
   ·have := hup a b h hb; rw [ea, eb, e] at this; exact absurd this (r8 _)
   ·subst h; rfl
   ·have := hup b a h ha; rw [ea, eb, e] at this; exact absurd this (r8 _)
  have hcyc : itr l (j + 1) x = x := huniq _ (hmem _ (Nat.le_refl _)) x hx h3
  have hper : ∀ m i, i <= m -> itr l i x ∈ l ∧ (itr l i x).p ≠ emp := fun m => by
   induction m with
   | zero => intro i hi; rw [show i = 0 by omega]; exact ⟨hx, h2 0 (by omega)⟩
   | succ m ih =>
    intro i hi
    by_cases hj : i <= j
    ·exact ⟨hmem i (by omega), h2 i hj⟩
    ·have e : itr l i x = itr l (i - (j + 1)) x := by
      conv => lhs; rw [show i = (j + 1) + (i - (j + 1)) by omega, a2X, hcyc]
     rw [e]; exact ih _ (by omega)
  refine List.any_eq_true.2 ⟨x, hx, decide_eq_true ?_⟩
  rw [a5g l (l.length + 1) x fun j _ => (hper j j (Nat.le_refl _)).2]
  omega
 ·rw [if_neg c4] at h0; exact absurd rfl h0
def alF (l : List Alm) (s : List Ser) (a : List Opr) : Int := C3 [afF l, asF s, ofF a]
theorem a2D (l : List Alm) (s : List Ser) (a : List Opr) (hl : l.length <= 1000000) (hs : s.length <= 1000000) (ha : a.length <= 1000000) (h2 : ∀ x ∈ l, x.sm) (h4 : ∀ x ∈ s, x.t.size <= 1000 ∧ x.l.length <= 1000000) (h6 : ∀ x ∈ a, x.sm) :
  FC Tryz.prog 45 none [r6 false l, B1 false s, F7 false a] (fun _ r => r = iv (alF l s a)) := by
 refine fcE Tryz.func45 (aL [[0,1,2],[6]]) ?_
 have hf := R1 false [afF l, asF s, ofF a] (by simp)
 rw [show C3 [afF l, asF s, ofF a] = alF l s a from rfl] at hf
 have h1 := a1u l hl fun z hz => by have h := h2 z hz; unfold Alm.sm at h; omega
 rw [c9k] at h1
 refine qc h1 ?_
 refine qc (a5m s hs h4) ?_
 refine qc (a3a a ha h6) ?_
 refine qc hf ?_
 exact qt
theorem alF_zero {l : List Alm} {s : List Ser} {a : List Opr} : alF l s a = 0 ↔ afF l = 0 ∧ asF s = 0 ∧ ofF a = 0 := by
 unfold alF C3 C3 C3 C3
 (repeat' split) <;> constructor <;> intro h <;> first | omega | (obtain ⟨h1, h2, h3⟩ := h; omega)
end Go.Proofs.YtnlafmigfjlnnaaGreatDoor

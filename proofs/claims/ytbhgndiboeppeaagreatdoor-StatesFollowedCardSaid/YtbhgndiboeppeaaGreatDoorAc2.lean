/- Acts: what is wrong with them; the order of acts. Right acts are let by. -/
import Derived.Test.YtbhgndiboeppeaaGreatDoorAlx
set_option linter.all false
set_option maxHeartbeats 4000000
set_option maxRecDepth 100000
namespace Go.Proofs.YtbhgndiboeppeaaGreatDoor
open Go Go.Ai
def d1j (l : List Int) (i : Int) : AS := ⟨m9 [(3, iv 0), (6, a1p false l), (7, iv l.length), (8, iv i)], f9 [], f9 []⟩
theorem a1v (l : List Int) (hl : l.length ≤ 4611686018427387904) : FC Tryz.prog 52 none [a1p false l] (fun _ r => r = iv (C2 l)) := by
 refine fcE Tryz.func52 (aL [[0],[0,3],[3,6,7,8],[3,6,7,8,9],[3,5,6,7,8],[3,5,6,7,8,14],[2],[3,6,7,8],[2]]) ?_
 refine qv ?_
 refine j9 (d1j l) (fun i => 0 ≤ i ∧ i ≤ l.length ∧ C2 (l.drop i.toNat) = C2 l) (fun i => (l.length - i).toNat) 0 ⟨by omega, by omega, rfl⟩ rfl ?_
 rintro i ⟨g1, g2, g3⟩
 unfold d1j
 by_cases hi : i < l.length
 ·rw [m7 l i.toNat (by omega), C2] at g3
  have e2 : (i + 1).toNat = i.toNat + 1 := by omega
  by_cases h : l.getD i.toNat default ≠ 0
  ·rw [if_pos h] at g3
   rw [← g3]
   exact qt
  ·rw [if_neg h] at g3
   refine qv ?_
   exact ⟨i + 1, rfl, ⟨by omega, by omega, by rw [e2]; exact g3⟩, by omega⟩
 ·rw [List.drop_eq_nil_of_le (by omega), C2] at g3
  refine qv ?_
  rw [← g3]
theorem b0P (x y : Opr) : C2 [X3 x.b y.b, sd y.no x.no] = a2t x y := by
 unfold a2t
 simp only [C2]
 split
 ·rfl
 ·show (if sd y.no x.no ≠ 0 then sd y.no x.no else 0) = sd y.no x.no
  split
  ·rfl
  ·omega
theorem b1A (n : Int) : FC Tryz.prog 21 none [iv n] (fun _ r => r = iv (if 0 ≤ n ∧ n ≤ 345686399999 then 0 else 1)) := by
 refine fcE Tryz.func21 (aL [[0],[2]]) ?_
 refine qc (X4 _ _ _) ?_
 exact qt
theorem b8Z (x : Opr) (h1 : x.b.size ≤ 1000) (h2 : x.al.size ≤ 1000) (h3 : I64 (x.at_ + 1)) : FC Tryz.prog 40 none [.ag (N7 x)] (fun _ r => r = iv (opF x)) := by
 refine fcE Tryz.func40 ([aN [1] [1] [],aN [1,3] [1] [],aN [2] [] [],aN [1,8] [1] [],aN [2] [] [],aN [1,19] [1] [],aN [2] [] [],aN [1,24] [1] [],aN [2] [] [],aN [1,29] [1] []] ++ aL [[2],[42],[2],[2]]) ?_
 unfold I64 at h3
 have hb := a1y x.b (by omega)
 have ha := a1y x.al (by omega)
 simp only [u3]
 refine qc hb ?_
 unfold opF
 cases c1 : m5 x.b with
 | false => rw [if_pos rfl]; simp (maxSteps := 1000000) (disch := omega) only [go_sem]
 | true =>
 rw [if_neg (show ¬(true = false) by simp)]
 refine qc (J5 _ _ _) ?_
 by_cases c2 : x.no < 1 ∨ x.no > 2000
 ·rw [if_pos (.inl c2), decide_eq_false (show ¬(1 ≤ x.no ∧ x.no ≤ 2000) by omega)]
  exact qt
 rw [decide_eq_true (show 1 ≤ x.no ∧ x.no ≤ 2000 by omega)]
 refine qc (b1A _) ?_
 by_cases c3 : x.at_ < 0 ∨ x.at_ ≥ 345686400000
 ·rw [if_neg (show ¬(0 ≤ x.at_ ∧ x.at_ ≤ 345686399999) by omega), if_pos (.inr c3)]
  exact qt
 rw [if_pos (show 0 ≤ x.at_ ∧ x.at_ ≤ 345686399999 by omega), if_neg (show ¬((x.no < 1 ∨ x.no > 2000) ∨ (x.at_ < 0 ∨ x.at_ ≥ 345686400000)) by omega)]
 refine qc (J5 _ _ _) ?_
 by_cases c4 : x.kd < 1 ∨ x.kd > 3
 ·rw [if_pos c4, decide_eq_false (show ¬(1 ≤ x.kd ∧ x.kd ≤ 3) by omega)]
  exact qt
 rw [if_neg c4, decide_eq_true (show 1 ≤ x.kd ∧ x.kd ≤ 3 by omega)]
 refine qc ha ?_
 cases c5 : m5 x.al with
 | false => rw [if_pos rfl]; simp (maxSteps := 1000000) (disch := omega) only [go_sem]
 | true =>
 rw [if_neg (show ¬(true = false) by simp)]
 by_cases c6 : x.kd = 2
 ·refine qc (J5 _ _ _) ?_
  by_cases c7 : x.un ≤ x.at_ ∨ x.un > 345686400000
  ·rw [if_pos ⟨c6, c7⟩, decide_eq_false (show ¬(x.at_ + 1 ≤ x.un ∧ x.un ≤ 345686400000) by omega)]
   exact qt
  ·rw [if_neg (fun h => c7 h.2), if_neg (fun h => h.1 c6), decide_eq_true (show x.at_ + 1 ≤ x.un ∧ x.un ≤ 345686400000 by omega)]
   exact qt
 ·rw [if_neg (fun h => c6 h.1)]
  by_cases c8 : x.un = 0
  ·rw [if_neg (fun h => h.2 c8)]
   exact qt
  ·rw [if_pos ⟨c6, c8⟩]
   exact qt
theorem c5f (x : Opr) (h1 : x.b.size ≤ 1000) (h2 : x.al.size ≤ 1000) : FC Tryz.prog 116 none [.ag (N7 x)] (fun _ r => r = iv (opF x)) := by
 refine fcE Tryz.func116 ([aN [1] [1] [],aN [1,3] [1] [],aN [2] [] [],aN [1,8] [1] [],aN [2] [] [],aN [1,18] [1] [],aN [2] [] [],aN [1,22] [1] [],aN [2] [] [],aN [1,27] [1] []] ++ aL [[2],[43],[2],[2]]) ?_
 have hb := a5u x.b (by omega)
 have ha := a5u x.al (by omega)
 simp only [u3]
 refine qc hb ?_
 unfold opF
 cases c1 : m5 x.b with
 | false => rw [if_pos rfl]; simp (maxSteps := 1000000) (disch := omega) only [go_sem]
 | true =>
 rw [if_neg (show ¬(true = false) by simp)]
 refine qc (J2 _ _ _) ?_
 by_cases c2 : x.no < 1 ∨ x.no > 2000
 ·rw [if_pos (.inl c2), decide_eq_true c2]
  exact qt
 rw [decide_eq_false c2]
 refine qc (N5 _) ?_
 by_cases c3 : x.at_ < 0 ∨ x.at_ ≥ 345686400000
 ·rw [if_pos (.inr c3), decide_eq_false (show ¬(0 ≤ x.at_ ∧ x.at_ ≤ 345686399999) by omega)]
  exact qt
 rw [if_neg (show ¬((x.no < 1 ∨ x.no > 2000) ∨ (x.at_ < 0 ∨ x.at_ ≥ 345686400000)) by omega), decide_eq_true (show 0 ≤ x.at_ ∧ x.at_ ≤ 345686399999 by omega)]
 refine qc (J2 _ _ _) ?_
 by_cases c4 : x.kd < 1 ∨ x.kd > 3
 ·rw [if_pos c4, decide_eq_true c4]
  exact qt
 rw [if_neg c4, decide_eq_false c4]
 refine qc ha ?_
 cases c5 : m5 x.al with
 | false => rw [if_pos rfl]; simp (maxSteps := 1000000) (disch := omega) only [go_sem]
 | true =>
 rw [if_neg (show ¬(true = false) by simp)]
 by_cases c6 : x.kd = 2
 ·by_cases c7 : x.un ≤ x.at_ ∨ x.un > 345686400000
  ·rw [if_pos ⟨c6, c7⟩]
   by_cases c8 : x.un ≤ x.at_
   ·exact qt
   ·exact qt
  ·rw [if_neg (fun h => c7 h.2), if_neg (fun h => h.1 c6)]
   exact qt
 ·rw [if_neg (fun h => c6 h.1)]
  by_cases c8 : x.un = 0
  ·rw [if_neg (fun h => h.2 c8)]
   exact qt
  ·rw [if_pos ⟨c6, c8⟩]
   exact qt
theorem b3O (x y : Opr) : FC Tryz.prog 41 none [.ag (N7 x), .ag (N7 y)] (fun _ r => r = iv (a2t x y)) := by
 refine fcE Tryz.func41 [aN [2,3] [2,3] [],aN [4] [] []] ?_
 have ho := a1v [X3 x.b y.b, sd y.no x.no] (by simp)
 rw [b0P] at ho
 generalize a2t x y = e at *
 simp only [u3]
 refine qc (a0n _ _) ?_
 refine qc (r9 _ _) ?_
 refine qc ho ?_
 exact qt
theorem b1B (x y : Opr) : FC Tryz.prog 88 none [.ag (N7 x), .ag (N7 y)] (fun _ r => r = iv (a2t x y)) := by
 refine fcE Tryz.func88 [aN [2,3] [2,3] [],aN [4] [] []] ?_
 have ho := a1v [X3 x.b y.b, sd y.no x.no] (by simp)
 rw [b0P] at ho
 generalize a2t x y = e at *
 simp only [u3]
 refine qc (a0n _ _) ?_
 refine qc (r9 _ _) ?_
 refine qc ho ?_
 exact qt
def b7N (l : List Opr) (i : Nat) : Option Opr := if i = 0 then none else some (l.getD (i - 1) default)
theorem B5 (l : List Opr) (i : Nat) : b7N l (i + 1) = some (l.getD i default) := rfl
theorem a3Y {l : List Opr} {i : Int} (h : 0 < i) : b7N l i.toNat = some (l.getD (i - 1).toNat default) := by
 unfold b7N; rw [if_neg (by omega), show i.toNat - 1 = (i - 1).toNat by omega]
def c8S (l : List Opr) (late : Bool) (i : Int) : AS := ⟨m9 [(0, u9 false l), (3, bv late), (10, u9 false l), (11, iv l.length), (12, iv i)], f9 [], f9 []⟩
def Opr.sm (x : Opr) : Prop := x.b.size ≤ 1000 ∧ x.al.size ≤ 1000 ∧ I64 (x.at_ + 1)
set_option maxHeartbeats 12000000 in
theorem b3Q (l : List Opr) (hl : l.length ≤ 1000000) (hsm : ∀ x ∈ l, x.sm) : FC Tryz.prog 13 none [u9 false l] (fun _ r => r = iv (ofF l)) := by
 refine fcE Tryz.func13 (aL [[0],[0,9],[2],[0,3],[0,3,10,11,12],[0,3,10,11,12,13]] ++ aM [5] [] [[0,3,4,5,10,11,12],[0,3,4,5,6,10,11,12],[0,3,4,5,6,10,11,12,20]] ++ aL [[2]] ++ aM [5] [] [[0,3,4,5,10,11,12,23],[0,3,4,5,10,11,12,31]] ++ aL [[2],[0,3,10,11,12],[0,3,10,11,12],[56],[2],[2]]) ?_
 unfold ofF
 by_cases c0 : l.length > 2000
 ·rw [if_pos c0]
  exact qt
 rw [if_neg c0]
 refine qv ?_
 refine n8 (fun (late : Bool) i => c8S l late i) (fun late i => 0 ≤ i ∧ i ≤ l.length ∧ a5B (b7N l i.toNat) (l.drop i.toNat) = a5B none l ∧ (late || a9t (b7N l i.toNat) (l.drop i.toNat)) = a9t none l) (fun _ i => (l.length - i).toNat) false 0 ⟨by omega, by omega, rfl, rfl⟩ rfl ?_
 rintro late i ⟨g1, g2, g3, g4⟩
 unfold c8S
 by_cases hi : i < l.length
 ·have e2 : (i + 1).toNat = i.toNat + 1 := by omega
  have em := e8 N7 l i [] g1 hi
  have hm := hsm _ (j5 l i.toNat (by omega))
  unfold Opr.sm at hm
  rw [m7 l i.toNat (by omega), a5B, ← e2] at g3
  rw [m7 l i.toNat (by omega), a9t, ← e2] at g4
  have hc := b8Z (l.getD i.toNat default) hm.1 hm.2.1 hm.2.2
  rw [u3] at hc
  by_cases c1 : opF (l.getD i.toNat default) ≠ 0
  ·rw [if_pos c1] at g3
   rw [← g3, if_pos c1]
   refine qcs hc ?_
   exact qts
  ·rw [if_neg c1] at g3
   by_cases hi0 : 0 < i
   ·have ep := e8 N7 l (i - 1) [] (by omega) (by omega)
    rw [a3Y hi0] at g3 g4
    have ho := b3O (l.getD (i - 1).toNat default) (l.getD i.toNat default)
    rw [u3, u3] at ho
    by_cases c2 : 0 ≤ a2t (l.getD (i - 1).toNat default) (l.getD i.toNat default)
    ·rw [if_pos (show b9F (some (l.getD (i - 1).toNat default)) (l.getD i.toNat default) = true from decide_eq_true c2)] at g3
     rw [← g3, if_pos (by omega)]
     refine qcs hc ?_
     refine qcs ho ?_
     exact qts
    ·rw [if_neg (show ¬(b9F (some (l.getD (i - 1).toNat default)) (l.getD i.toNat default) = true) from fun h => c2 (of_decide_eq_true h))] at g3
     have el : b3j (some (l.getD (i - 1).toNat default)) (l.getD i.toNat default) = decide ((l.getD (i - 1).toNat default).b = (l.getD i.toNat default).b ∧ (l.getD i.toNat default).at_ < (l.getD (i - 1).toNat default).at_) := rfl
     rw [el] at g4
     cases late with
     | true =>
      refine qcs hc ?_
      refine qcs ho ?_
      refine qvs ?_
      exact ⟨true, i + 1, rfl, ⟨by omega, by omega, by rw [e2, B5, ← e2]; exact g3, by rw [Bool.true_or] at g4 ⊢; exact g4⟩, by omega⟩
     | false =>
      by_cases c3 : (l.getD (i - 1).toNat default).b = (l.getD i.toNat default).b
      ·by_cases c4 : (l.getD i.toNat default).at_ < (l.getD (i - 1).toNat default).at_
       ·rw [decide_eq_true (p := (l.getD (i - 1).toNat default).b = (l.getD i.toNat default).b ∧ (l.getD i.toNat default).at_ < (l.getD (i - 1).toNat default).at_) ⟨c3, c4⟩] at g4
        refine qcs hc ?_
        refine qcs ho ?_
        refine qvs ?_
        exact ⟨_, i + 1, rfl, ⟨by omega, by omega, by rw [e2, B5, ← e2]; exact g3, by rw [decide_eq_true c4, e2, B5, ← e2]; exact g4⟩, by omega⟩
       ·rw [decide_eq_false (p := (l.getD (i - 1).toNat default).b = (l.getD i.toNat default).b ∧ (l.getD i.toNat default).at_ < (l.getD (i - 1).toNat default).at_) (fun h => c4 h.2)] at g4
        refine qcs hc ?_
        refine qcs ho ?_
        refine qvs ?_
        exact ⟨_, i + 1, rfl, ⟨by omega, by omega, by rw [e2, B5, ← e2]; exact g3, by rw [decide_eq_false c4, e2, B5, ← e2]; exact g4⟩, by omega⟩
      ·rw [decide_eq_false (p := (l.getD (i - 1).toNat default).b = (l.getD i.toNat default).b ∧ (l.getD i.toNat default).at_ < (l.getD (i - 1).toNat default).at_) (fun h => c3 h.1)] at g4
       refine qcs hc ?_
       refine qcs ho ?_
       refine qvs ?_
       exact ⟨false, i + 1, rfl, ⟨by omega, by omega, by rw [e2, B5, ← e2]; exact g3, by rw [e2, B5, ← e2]; exact g4⟩, by omega⟩
   ·have e0 : i = 0 := by omega
    subst e0
    rw [show b7N l (Int.toNat 0) = none from rfl] at g3 g4
    rw [if_neg (by simp [b9F])] at g3
    rw [show b3j none (l.getD (Int.toNat 0) default) = false from rfl, Bool.false_or] at g4
    refine qcs hc ?_
    refine qvs ?_
    exact ⟨late, 1, rfl, ⟨by omega, by omega, g3, g4⟩, by omega⟩
 ·rw [List.drop_eq_nil_of_le (by omega), a5B] at g3
  rw [List.drop_eq_nil_of_le (by omega), a9t, Bool.or_false] at g4
  rw [if_neg (show ¬(a5B none l ≠ 0) by omega), ← g4]
  cases late with
  | true => exact qt
  | false => exact qt
structure b1d (a : List Opr) : Prop where
 len : a.length ≤ 2000
 flt : ∀ i, i < a.length → opF (a.getD i default) = 0
 up : ∀ i, i + 1 < a.length → a2t (a.getD i default) (a.getD (i + 1) default) < 0
 tm : ∀ i, i + 1 < a.length → ¬((a.getD i default).b = (a.getD (i + 1) default).b ∧ (a.getD (i + 1) default).at_ < (a.getD i default).at_)
theorem b3F : ∀ (l : List Opr) (pv : Option Opr), a5B pv l = 0 → (∀ i, i < l.length → opF (l.getD i default) = 0) ∧ (∀ i, i + 1 < l.length → a2t (l.getD i default) (l.getD (i + 1) default) < 0) ∧ (∀ q, pv = some q → 0 < l.length → a2t q (l.getD 0 default) < 0)
 | [], pv, _ => ⟨fun i h => by simp at h, fun i h => by simp at h, fun q _ h => by simp at h⟩
 | x :: r, pv, h => by
  rw [a5B] at h
  by_cases c1 : opF x ≠ 0
  ·rw [if_pos c1] at h; exact absurd h c1
  ·rw [if_neg c1] at h
   by_cases c2 : b9F pv x = true
   ·rw [if_pos c2] at h; omega
   ·rw [if_neg c2] at h
    obtain ⟨h1, h2, h3⟩ := b3F r (some x) h
    refine ⟨fun i hi => ?_, fun i hi => ?_, fun q hq _ => ?_⟩
    ·cases i with
     | zero => simpa using c1
     | succ i => simpa using h1 i (by simpa using hi)
    ·cases i with
     | zero => simpa using h3 x rfl (by simpa using hi)
     | succ i => simpa using h2 i (by simpa using hi)
    ·subst hq
     simpa [b9F] using c2
theorem b3E : ∀ (l : List Opr) (pv : Option Opr), a9t pv l = false → (∀ i, i + 1 < l.length → ¬((l.getD i default).b = (l.getD (i + 1) default).b ∧ (l.getD (i + 1) default).at_ < (l.getD i default).at_)) ∧ (∀ q, pv = some q → 0 < l.length → ¬(q.b = (l.getD 0 default).b ∧ (l.getD 0 default).at_ < q.at_))
 | [], pv, _ => ⟨fun i h => by simp at h, fun q _ h => by simp at h⟩
 | x :: r, pv, h => by
  rw [a9t, Bool.or_eq_false_iff] at h
  obtain ⟨h1, h2⟩ := b3E r (some x) h.2
  refine ⟨fun i hi => ?_, fun q hq _ => ?_⟩
  ·cases i with
   | zero => simpa using h2 x rfl (by simpa using hi)
   | succ i => simpa using h1 i (by simpa using hi)
  ·subst hq
   have := of_decide_eq_false h.1
   simpa using this
theorem b5w {a : List Opr} (h : ofF a = 0) : b1d a := by
 unfold ofF at h
 by_cases c1 : a.length > 2000
 ·rw [if_pos c1] at h; omega
 rw [if_neg c1] at h
 by_cases c2 : a5B none a ≠ 0
 ·rw [if_pos c2] at h; exact absurd h c2
 rw [if_neg c2] at h
 by_cases c3 : a9t none a = true
 ·rw [if_pos c3] at h; omega
 obtain ⟨h1, h2, _⟩ := b3F a none (by omega)
 obtain ⟨h3, _⟩ := b3E a none (by simpa using c3)
 exact ⟨by omega, h1, h2, h3⟩
def d0I (l : List Opr) (i : Int) : AS := ⟨m9 [(0, u9 false l), (12, u9 false l), (13, iv l.length), (14, iv i)], f9 [], f9 []⟩
def d1u (l : List Opr) (i : Int) : AS := ⟨m9 [(0, u9 false l), (36, u9 false l), (37, iv l.length), (38, iv i)], f9 [], f9 []⟩
theorem a4C (l : List Opr) : b7N l (Int.toNat 0) = none := rfl
set_option maxHeartbeats 12000000 in
theorem a3E (l : List Opr) (hl : l.length ≤ 1000000) (hsm : ∀ x ∈ l, x.sm) : FC Tryz.prog 80 none [u9 false l] (fun _ r => r = iv (ofF l)) := by
 refine fcE Tryz.func80 (aL [[0],[0,11],[2],[0,12,13,14],[0,12,13,14,15]] ++ aM [4] [] [[0,3,4,12,13,14],[0,3,4,5,12,13,14],[0,3,4,5,12,13,14,22]] ++ [aN [2] [] [],aN [0,3,4,12,13,14,25] [4] [],aN [0,4,6,12,13,14] [4,6] []] ++ aL [[0,12,13,14,34],[2],[0,12,13,14],[0,36,37,38],[0,36,37,38,39]] ++ [aN [0,7,8,36,37,38] [8] []] ++ aL [[0,36,37,38,66],[2],[0,36,37,38],[2]]) ?_
 unfold ofF
 by_cases c0 : l.length > 2000
 ·rw [if_pos c0]
  exact qt
 rw [if_neg c0]
 refine qv ?_
 refine j9 (d0I l) (fun i => 0 ≤ i ∧ i ≤ l.length ∧ a5B (b7N l i.toNat) (l.drop i.toNat) = a5B none l) (fun i => (l.length - i).toNat) 0 ⟨by omega, by omega, rfl⟩ rfl ?_
 rintro i ⟨g1, g2, g3⟩
 unfold d0I
 by_cases hi : i < l.length
 ·have em := e8 N7 l i [] g1 hi
  have e2 : (i + 1).toNat = i.toNat + 1 := by omega
  have hm := hsm _ (j5 l i.toNat (by omega))
  unfold Opr.sm at hm
  rw [m7 l i.toNat (by omega), a5B, ← e2] at g3
  have hc := c5f (l.getD i.toNat default) hm.1 hm.2.1
  rw [u3] at hc
  by_cases c1 : opF (l.getD i.toNat default) ≠ 0
  ·rw [if_pos c1] at g3
   rw [← g3, if_pos c1]
   refine qcs hc ?_
   exact qts
  ·rw [if_neg c1] at g3
   by_cases hi0 : 0 < i
   ·have ep := e8 N7 l (i - 1) [] (by omega) (by omega)
    have ho := b1B (l.getD i.toNat default) (l.getD (i - 1).toNat default)
    rw [a3Y hi0] at g3
    have han := b4A (l.getD i.toNat default) (l.getD (i - 1).toNat default)
    have hob : b9F (some (l.getD (i - 1).toNat default)) (l.getD i.toNat default) = decide (0 ≤ a2t (l.getD (i - 1).toNat default) (l.getD i.toNat default)) := rfl
    rw [hob] at g3
    rw [u3, u3] at ho
    generalize a2t (l.getD (i - 1).toNat default) (l.getD i.toNat default) = e' at *
    generalize a2t (l.getD i.toNat default) (l.getD (i - 1).toNat default) = e at *
    by_cases c2 : 0 ≤ e'
    ·rw [if_pos (decide_eq_true c2)] at g3
     rw [← g3, if_pos (by omega)]
     refine qcs hc ?_
     refine qcs ho ?_
     exact qts
    ·rw [if_neg (by simpa using c2)] at g3
     refine qcs hc ?_
     refine qcs ho ?_
     refine qvs ?_
     exact ⟨i + 1, rfl, ⟨by omega, by omega, by rw [e2, B5, ← e2]; exact g3⟩, by omega⟩
   ·have e0 : i = 0 := by omega
    subst e0
    rw [a4C, if_neg (by simp [b9F])] at g3
    refine qcs hc ?_
    refine qvs ?_
    exact ⟨1, rfl, ⟨by omega, by omega, g3⟩, by omega⟩
 ·rw [List.drop_eq_nil_of_le (by omega), a5B] at g3
  rw [if_neg (show ¬(a5B none l ≠ 0) by omega)]
  refine qv ?_
  refine j9 (d1u l) (fun i => 0 ≤ i ∧ i ≤ l.length ∧ a9t (b7N l i.toNat) (l.drop i.toNat) = a9t none l) (fun i => (l.length - i).toNat) 0 ⟨by omega, by omega, rfl⟩ rfl ?_
  rintro i ⟨g1, g2, g3⟩
  unfold d1u
  by_cases hi : i < l.length
  ·have em := e8 N7 l i [] g1 hi
   have e2 : (i + 1).toNat = i.toNat + 1 := by omega
   rw [m7 l i.toNat (by omega), a9t, ← e2] at g3
   by_cases hi0 : 0 < i
   ·have ep := e8 N7 l (i - 1) [] (by omega) (by omega)
    rw [a3Y hi0] at g3
    have el : b3j (some (l.getD (i - 1).toNat default)) (l.getD i.toNat default) = decide ((l.getD (i - 1).toNat default).b = (l.getD i.toNat default).b ∧ (l.getD i.toNat default).at_ < (l.getD (i - 1).toNat default).at_) := rfl
    rw [el] at g3
    by_cases c1 : (l.getD i.toNat default).b = (l.getD (i - 1).toNat default).b
    ·by_cases c2 : (l.getD i.toNat default).at_ < (l.getD (i - 1).toNat default).at_
     ·rw [decide_eq_true (p := (l.getD (i - 1).toNat default).b = (l.getD i.toNat default).b ∧ (l.getD i.toNat default).at_ < (l.getD (i - 1).toNat default).at_) ⟨c1.symm, c2⟩, Bool.true_or] at g3
      rw [← g3, if_pos rfl]
      exact qts
     ·rw [decide_eq_false (p := (l.getD (i - 1).toNat default).b = (l.getD i.toNat default).b ∧ (l.getD i.toNat default).at_ < (l.getD (i - 1).toNat default).at_) (fun h => c2 h.2), Bool.false_or] at g3
      refine qvs ?_
      exact ⟨i + 1, rfl, ⟨by omega, by omega, by rw [e2, B5, ← e2]; exact g3⟩, by omega⟩
    ·rw [decide_eq_false (p := (l.getD (i - 1).toNat default).b = (l.getD i.toNat default).b ∧ (l.getD i.toNat default).at_ < (l.getD (i - 1).toNat default).at_) (fun h => c1 h.1.symm), Bool.false_or] at g3
     refine qvs ?_
     exact ⟨i + 1, rfl, ⟨by omega, by omega, by rw [e2, B5, ← e2]; exact g3⟩, by omega⟩
   ·have e0 : i = 0 := by omega
    subst e0
    rw [a4C, show b3j none (l.getD (Int.toNat 0) default) = false from rfl, Bool.false_or] at g3
    refine qvs ?_
    exact ⟨1, rfl, ⟨by omega, by omega, g3⟩, by omega⟩
  ·rw [List.drop_eq_nil_of_le (by omega), a9t] at g3
   rw [← g3, if_neg (by simp)]
   exact qt
end Go.Proofs.YtbhgndiboeppeaaGreatDoor

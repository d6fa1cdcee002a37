/- What is wrong with alarms: the program's answer, for any alarms. -/
import Derived.Test.YtbhgndiboeppeaaGreatDoorAlx
import Derived.Test.YtbhgndiboeppeaaGreatDoorAc2
set_option linter.all false
set_option maxHeartbeats 4000000
set_option maxRecDepth 100000
namespace Go.Proofs.YtbhgndiboeppeaaGreatDoor
open Go Go.Ai
theorem a6I (l : List Alm) (hl : l.length ≤ 200) (hup : a0h Alm.k l) (hpar : ∀ x ∈ l, x.p ≠ emp → 0 ≤ q8 l x.p ∧ q8 l x.p < l.length) (x : Alm) (hx : x ∈ l) : FC Tryz.prog 83 none [r6 false l, .ag (z7 x)] (fun _ r => r = a1p true (G0 l (l.length + 1) x)) := by
 refine fcE Tryz.func83 a0B ?_
 simp only [o6]
 refine qv ?_
 refine n8 (fun (y : Alm) (out : List Int) => a9r l y out) (fun y out => y ∈ l ∧ out.length ≤ l.length + 1 ∧ out ++ G0 l (l.length + 1 - out.length) y = G0 l (l.length + 1) x) (fun _ out => l.length + 1 - out.length) x [] ⟨hx, by simp, by simp⟩ ?_ ?_
 ·unfold a9r
  simp only [o6, List.map_nil, AS.mk.injEq]
  refine ⟨?_, trivial, ?_⟩
  ·funext n
   simp only [a1U, a1N, a3l]
   by_cases h5 : n = 5
   ·subst h5; rfl
   ·simp only [h5, if_false]
  ·funext n; rfl
 rintro y out ⟨h1, h2, h3⟩
 unfold a9r
 by_cases c1 : y.p = emp
 ·have e : G0 l (l.length + 1 - out.length) y = [] := by
   cases hn : l.length + 1 - out.length with
   | zero => rfl
   | succ n => rw [G0, if_pos c1]
  rw [e, List.append_nil] at h3
  rw [← h3]
  have c1' : ¬¬y.p = emp := fun h => h c1
  exact qts
 ·by_cases c2 : out.length ≤ l.length
  ·have hix := hpar y h1 c1
   have hc := O8 y.p l (by omega) hup
   have ey := e8 z7 l (q8 l y.p) [] hix.1 hix.2
   have hpm : a3h l y ∈ l := j5 l _ (by omega)
   rw [show l.length + 1 - out.length = (l.length + 1 - (out ++ [q8 l y.p]).length) + 1 by simp; omega, G0, if_neg c1] at h3
   have epo : a3h l y = l.getD (q8 l y.p).toNat default := rfl
   rw [epo] at h3 hpm
   refine qcs hc ?_
   refine qvs ?_
   refine ⟨l.getD (q8 l y.p).toNat default, out ++ [q8 l y.p], ?_, ⟨hpm, by simp; omega, ?_⟩, by simp; omega⟩
   ·simp only [o6, List.map_append, List.map_cons, List.map_nil, a0i]
   ·rw [List.append_assoc, List.singleton_append]; exact h3
  ·rw [show l.length + 1 - out.length = 0 by omega, G0, List.append_nil] at h3
   rw [← h3]
   exact qts
set_option maxHeartbeats 12000000 in
theorem a1O (l : List Alm) (hl0 : l.length ≤ 1000000) (hsm : ∀ x ∈ l, x.k.size ≤ 1000000 ∧ x.t.size ≤ 1000000) : FC Tryz.prog 78 none [r6 false l] (fun _ r => r = iv (caF l)) := by
 refine fcE Tryz.func78 a0F ?_
 unfold caF
 by_cases hl : l.length > 200
 ·rw [if_pos hl]
  exact qts
 rw [if_neg hl]
 refine qvs ?_
 refine j9 (c8X l) (fun i => 0 ≤ i ∧ i ≤ l.length ∧ a2M (b8m l i.toNat) (l.drop i.toNat) = a2M none l) (fun i => (l.length - i).toNat) 0 ⟨by omega, by omega, rfl⟩ rfl ?_
 rintro i ⟨g1, g2, g3⟩
 unfold c8X
 by_cases hi : i < l.length
 ·have e2 : (i + 1).toNat = i.toNat + 1 := by omega
  have em := e8 z7 l i [] g1 hi
  have hm := hsm _ (j5 l i.toNat (by omega))
  rw [m7 l i.toNat (by omega), a2M, ← e2] at g3
  have hc := Y2 (l.getD i.toNat default).k (l.getD i.toNat default).t (l.getD i.toNat default).p (l.getD i.toNat default).lt (by omega) (by omega) (l.getD i.toNat default).kd (l.getD i.toNat default).lim (l.getD i.toNat default).db (l.getD i.toNat default).on (l.getD i.toNat default).off (l.getD i.toNat default).pr
  rw [show a3p (m5 (l.getD i.toNat default).k && m5 (l.getD i.toNat default).t) (l.getD i.toNat default).kd (l.getD i.toNat default).lim (l.getD i.toNat default).db (l.getD i.toNat default).on (l.getD i.toNat default).off (l.getD i.toNat default).pr = (l.getD i.toNat default).flt from rfl] at hc
  by_cases c1 : (l.getD i.toNat default).flt ≠ 0
  ·rw [if_pos c1] at g3
   rw [← g3, if_pos c1]
   refine qcs hc ?_
   exact qts
  ·rw [if_neg c1] at g3
   by_cases hi0 : 0 < i
   ·have ep := e8 z7 l (i - 1) [] (by omega) (by omega)
    have e4 : b8m l i.toNat = some (l.getD (i - 1).toNat default).k := by
     unfold b8m; rw [if_neg (by omega)]
     rw [show i.toNat - 1 = (i - 1).toNat by omega]
    rw [e4] at g3
    have ho := a7h (a := (l.getD i.toNat default).k) (b := (l.getD (i - 1).toNat default).k)
    by_cases c2 : ltS (l.getD (i - 1).toNat default).k (l.getD i.toNat default).k
    ·rw [if_neg (show ¬(D9 (some (l.getD (i - 1).toNat default).k) (l.getD i.toNat default).k = true) from fun h => (of_decide_eq_true h) c2)] at g3
     have h5 : ¬(ltS (l.getD i.toNat default).k (l.getD (i - 1).toNat default).k ∨ (l.getD i.toNat default).k = (l.getD (i - 1).toNat default).k) := fun h => (ho.1 h) c2
     have hd := decide_eq_false h5
     refine qcs hc ?_
     refine qvs ?_
     exact ⟨i + 1, rfl, ⟨by omega, by omega, by rw [e2, a4h, ← e2]; exact g3⟩, by omega⟩
    ·rw [if_pos (show D9 (some (l.getD (i - 1).toNat default).k) (l.getD i.toNat default).k = true from decide_eq_true c2)] at g3
     have h5 := ho.2 c2
     rw [← g3, if_pos (by omega)]
     refine qcs hc ?_
     exact qts
   ·have e0 : i = 0 := by omega
    subst e0
    rw [show b8m l (Int.toNat 0) = none from rfl, if_neg (by simp [D9])] at g3
    refine qcs hc ?_
    refine qvs ?_
    exact ⟨1, rfl, ⟨by omega, by omega, g3⟩, by omega⟩
 ·rw [List.drop_eq_nil_of_le (by omega), a2M] at g3
  rw [if_neg (show ¬(a2M none l ≠ 0) by omega)]
  obtain ⟨hflt, hadj, _⟩ := a3v l none g3.symm
  have hup := T7 hadj
  refine qvs ?_
  refine j9 (c8j l) (fun i => 0 ≤ i ∧ i ≤ l.length ∧ (l.drop i.toNat).any (Q9 l) = l.any (Q9 l)) (fun i => (l.length - i).toNat) 0 ⟨by omega, by omega, rfl⟩ rfl ?_
  rintro i ⟨g1, g2, g3⟩
  unfold c8j
  by_cases hi : i < l.length
  ·have e2 : (i + 1).toNat = i.toNat + 1 := by omega
   have em := e8 z7 l i [] g1 hi
   rw [m7 l i.toNat (by omega), List.any_cons, ← e2] at g3
   have hc := O8 (l.getD i.toNat default).p l (by omega) hup
   by_cases c1 : (l.getD i.toNat default).p = emp
   ·rw [show Q9 l (l.getD i.toNat default) = false from decide_eq_false (fun h => h.1 c1), Bool.false_or] at g3
    have c1' : ¬¬(l.getD i.toNat default).p = emp := fun h => h c1
    refine qvs ?_
    exact ⟨i + 1, rfl, ⟨by omega, by omega, g3⟩, by omega⟩
   ·by_cases c2 : q8 l (l.getD i.toNat default).p < 0
    ·rw [show Q9 l (l.getD i.toNat default) = true from decide_eq_true ⟨c1, c2⟩, Bool.true_or] at g3
     rw [if_pos g3.symm]
     refine qcs hc ?_
     exact qts
    ·rw [show Q9 l (l.getD i.toNat default) = false from decide_eq_false (fun h => c2 h.2), Bool.false_or] at g3
     refine qcs hc ?_
     refine qvs ?_
     exact ⟨i + 1, rfl, ⟨by omega, by omega, g3⟩, by omega⟩
  ·rw [List.drop_eq_nil_of_le (by omega), List.any_nil] at g3
   have hno : ∀ x ∈ l, x.p ≠ emp → 0 ≤ q8 l x.p ∧ q8 l x.p < l.length := fun x hx hp => by
    rcases D5 l x.p with h | h
    ·have : l.any (Q9 l) = true := List.any_eq_true.2 ⟨x, hx, decide_eq_true (p := x.p ≠ emp ∧ q8 l x.p < 0) ⟨hp, by omega⟩⟩
     rw [← g3] at this
     cases this
    ·exact h
   rw [if_neg (by rw [← g3]; simp)]
   clear g3
   refine qvs ?_
   refine j9 (d1d l) (fun i => 0 ≤ i ∧ i ≤ l.length ∧ ((l.drop i.toNat).any fun x => decide ((G0 l (l.length + 1) x).length > l.length)) = (l.any fun x => decide ((G0 l (l.length + 1) x).length > l.length))) (fun i => (l.length - i).toNat) 0 ⟨by omega, by omega, rfl⟩ rfl ?_
   rintro i ⟨g1, g2, g3⟩
   unfold d1d
   by_cases hi : i < l.length
   ·have e2 : (i + 1).toNat = i.toNat + 1 := by omega
    have em := e8 z7 l i [] g1 hi
    have hxm := j5 l i.toNat (by omega)
    rw [m7 l i.toNat (by omega), List.any_cons, ← e2] at g3
    have hc := a6I l (by omega) hup hno _ hxm
    have hpl := W8 l (l.length + 1) (l.getD i.toNat default)
    rw [o6] at hc
    generalize G0 l (l.length + 1) (l.getD i.toNat default) = A at hc g3 hpl
    by_cases c3 : A.length > l.length
    ·rw [decide_eq_true c3, Bool.true_or] at g3
     rw [if_pos g3.symm]
     refine qcs hc ?_
     exact qts
    ·rw [decide_eq_false c3, Bool.false_or] at g3
     refine qcs hc ?_
     refine qvs ?_
     exact ⟨i + 1, rfl, ⟨by omega, by omega, g3⟩, by omega⟩
   ·rw [List.drop_eq_nil_of_le (by omega), List.any_nil] at g3
    rw [if_neg (by rw [← g3]; simp)]
    exact qts
set_option maxHeartbeats 12000000 in
theorem a4W (l : List Ser) (hl : l.length ≤ 1000000) (hsm : ∀ x ∈ l, x.t.size ≤ 1000 ∧ x.l.length ≤ 1000000) : FC Tryz.prog 79 none [B3 false l] (fun _ r => r = iv (asF l)) := by
 refine fcE Tryz.func79 a3S ?_
 unfold asF
 by_cases c0 : l.length > 200
 ·rw [if_pos c0]
  exact qt
 rw [if_neg c0]
 refine qv ?_
 refine j9 (a7b l) (fun i => 0 ≤ i ∧ i ≤ l.length ∧ b0p (b4M l i.toNat) (l.drop i.toNat) = b0p none l) (fun i => (l.length - i).toNat) 0 ⟨by omega, by omega, rfl⟩ rfl ?_
 rintro i ⟨g1, g2, g3⟩
 unfold a7b
 by_cases hi : i < l.length
 ·have e2 : (i + 1).toNat = i.toNat + 1 := by omega
  have em := e8 (b0n true) l i [] g1 hi
  have hm := hsm _ (j5 l i.toNat (by omega))
  rw [m7 l i.toNat (by omega), b0p, ← e2] at g3
  have hk := a5u (l.getD i.toNat default).t (by omega)
  have hs := V0 (l.getD i.toNat default).l (by omega)
  cases c1 : m5 (l.getD i.toNat default).t with
  | false =>
   rw [c1] at hk
   rw [if_pos c1] at g3
   rw [← g3]
   refine qcs hk ?_
   exact qts
  | true =>
   rw [c1] at hk
   rw [if_neg (by rw [c1]; simp)] at g3
   by_cases hi0 : 0 < i
   ·have ep := e8 (b0n true) l (i - 1) [] (by omega) (by omega)
    have e4 : b4M l i.toNat = some (l.getD (i - 1).toNat default).t := by
     unfold b4M; rw [if_neg (by omega)]
     rw [show i.toNat - 1 = (i - 1).toNat by omega]
    rw [e4] at g3
    have ho := a7h (a := (l.getD i.toNat default).t) (b := (l.getD (i - 1).toNat default).t)
    by_cases c2 : ltS (l.getD (i - 1).toNat default).t (l.getD i.toNat default).t
    ·rw [if_neg (show ¬(D9 (some (l.getD (i - 1).toNat default).t) (l.getD i.toNat default).t = true) from fun h => (of_decide_eq_true h) c2)] at g3
     have h5 : ¬(ltS (l.getD i.toNat default).t (l.getD (i - 1).toNat default).t ∨ (l.getD i.toNat default).t = (l.getD (i - 1).toNat default).t) := fun h => (ho.1 h) c2
     by_cases c3 : n7 (l.getD i.toNat default).l ≠ 0
     ·rw [if_pos c3] at g3
      rw [← g3]
      refine qcs hk ?_
      refine qcs hs ?_
      exact qts
     ·rw [if_neg c3] at g3
      refine qcs hk ?_
      refine qcs hs ?_
      refine qvs ?_
      exact ⟨i + 1, rfl, ⟨by omega, by omega, by rw [e2, a5q, ← e2]; exact g3⟩, by omega⟩
    ·rw [if_pos (show D9 (some (l.getD (i - 1).toNat default).t) (l.getD i.toNat default).t = true from decide_eq_true c2)] at g3
     have h5 := ho.2 c2
     rw [← g3]
     refine qcs hk ?_
     exact qts
   ·have e0 : i = 0 := by omega
    subst e0
    rw [show b4M l (Int.toNat 0) = none from rfl, if_neg (by simp [D9])] at g3
    by_cases c3 : n7 (l.getD (Int.toNat 0) default).l ≠ 0
    ·rw [if_pos c3] at g3
     rw [← g3]
     refine qcs hk ?_
     refine qcs hs ?_
     exact qts
    ·rw [if_neg c3] at g3
     refine qcs hk ?_
     refine qcs hs ?_
     refine qvs ?_
     exact ⟨1, rfl, ⟨by omega, by omega, g3⟩, by omega⟩
 ·rw [List.drop_eq_nil_of_le (by omega), b0p] at g3
  rw [← g3]
  exact qt
/-! ### what the program says of alarms is what the reference says -/
theorem c0P (l : List Alm) (k : ByteArray) : ∀ (n : Nat) (x : Alm), lpR l k n x = true → ∃ j, j < n ∧ (∀ i, i ≤ j → (itr l i x).p ≠ emp) ∧ (itr l (j + 1) x).k = k
 | 0, x, h => by simp [lpR] at h
 | n + 1, x, h => by
  rw [lpR] at h
  by_cases c : x.p = emp
  ·rw [if_pos c] at h; cases h
  ·rw [if_neg c] at h
   by_cases c2 : (a3h l x).k = k
   ·exact ⟨0, by omega, fun i hi => by rw [show i = 0 by omega]; exact c, c2⟩
   ·rw [if_neg c2] at h
    obtain ⟨j, h1, h2, h3⟩ := c0P l k n _ h
    refine ⟨j + 1, by omega, fun i hi => ?_, h3⟩
    cases i with
    | zero => exact c
    | succ i => exact h2 i (by omega)
theorem a5d (l : List Alm) : ∀ (n : Nat) (x : Alm), (∀ j, j < n → (itr l j x).p ≠ emp) → (G0 l n x).length = n
 | 0, x, _ => rfl
 | n + 1, x, h => by
  have h0 : x.p ≠ emp := h 0 (by omega)
  rw [G0, if_neg h0, List.length_cons, a5d l n _ fun j hj => h (j + 1) (by omega)]
theorem c9L (l : List Alm) : caF l = afF l := by
 by_cases h0 : afF l = 0
 ·rw [h0, c0k h0]
 unfold afF at h0 ⊢
 unfold caF
 by_cases c1 : l.length > 200
 ·rw [if_pos c1, if_pos c1]
 rw [if_neg c1] at h0 ⊢
 rw [if_neg c1]
 by_cases c2 : a2M none l ≠ 0
 ·rw [if_pos c2, if_pos c2]
 rw [if_neg c2] at h0 ⊢
 rw [if_neg c2]
 by_cases c3 : l.any (Q9 l) = true
 ·rw [if_pos c3, if_pos c3]
 rw [if_neg c3] at h0 ⊢
 rw [if_neg c3]
 by_cases c4 : (l.any fun x => lpR l x.k l.length x) = true
 ·rw [if_pos c4, if_pos]
  obtain ⟨x, hx, hlp⟩ := List.any_eq_true.1 c4
  obtain ⟨j, h1, h2, h3⟩ := c0P l x.k l.length x hlp
  obtain ⟨_, hadj, _⟩ := a3v l none (by omega)
  have hup := T7 hadj
  have hno : ∀ y ∈ l, y.p ≠ emp → a3h l y ∈ l := fun y hy hyp => by
   rcases D5 l y.p with h1 | h1
   ·exact absurd (List.any_eq_true.2 ⟨y, hy, decide_eq_true ⟨hyp, by omega⟩⟩) c3
   ·exact j5 l _ (by omega)
  have hmem : ∀ i, i ≤ j + 1 → itr l i x ∈ l := fun i => by
   induction i with
   | zero => intro _; exact hx
   | succ i ih => intro hi; rw [X5]; exact hno _ (ih (by omega)) (h2 i (by omega))
  have huniq : ∀ y ∈ l, ∀ z ∈ l, y.k = z.k → y = z := fun y hy z hz e => by
   obtain ⟨a, ha, rfl⟩ := List.getElem_of_mem hy
   obtain ⟨b, hb, rfl⟩ := List.getElem_of_mem hz
   have ea : l.getD a default = l[a] := by simp [List.getD, ha]
   have eb : l.getD b default = l[b] := by simp [List.getD, hb]
   rcases Nat.lt_trichotomy a b with h | h | h
   ·have := hup a b h hb; rw [ea, eb, e] at this; exact absurd this (r8 _)
   ·subst h; rfl
   ·have := hup b a h ha; rw [ea, eb, e] at this; exact absurd this (r8 _)
  have hcyc : itr l (j + 1) x = x := huniq _ (hmem _ (Nat.le_refl _)) x hx h3
  have hper : ∀ m i, i ≤ m → itr l i x ∈ l ∧ (itr l i x).p ≠ emp := fun m => by
   induction m with
   | zero => intro i hi; rw [show i = 0 by omega]; exact ⟨hx, h2 0 (by omega)⟩
   | succ m ih =>
    intro i hi
    by_cases hj : i ≤ j
    ·exact ⟨hmem i (by omega), h2 i hj⟩
    ·have e : itr l i x = itr l (i - (j + 1)) x := by
      conv => lhs; rw [show i = (j + 1) + (i - (j + 1)) by omega, a2V, hcyc]
     rw [e]; exact ih _ (by omega)
  refine List.any_eq_true.2 ⟨x, hx, decide_eq_true ?_⟩
  rw [a5d l (l.length + 1) x fun j _ => (hper j j (Nat.le_refl _)).2]
  omega
 ·rw [if_neg c4] at h0; exact absurd rfl h0
def alF (l : List Alm) (s : List Ser) (a : List Opr) : Int := C2 [afF l, asF s, ofF a]
theorem a2H (l : List Alm) (s : List Ser) (a : List Opr) (hl : l.length ≤ 1000000) (hs : s.length ≤ 1000000) (ha : a.length ≤ 1000000) (h2 : ∀ x ∈ l, x.sm) (h4 : ∀ x ∈ s, x.t.size ≤ 1000 ∧ x.l.length ≤ 1000000) (h6 : ∀ x ∈ a, x.sm) :
  FC Tryz.prog 42 none [r6 false l, B3 false s, u9 false a] (fun _ r => r = iv (alF l s a)) := by
 refine fcE Tryz.func42 (aL [[0,1,2],[6]]) ?_
 have hf := a7N false [afF l, asF s, ofF a] (by simp)
 rw [show C2 [afF l, asF s, ofF a] = alF l s a from rfl] at hf
 have h1 := a1O l hl fun z hz => by have h := h2 z hz; unfold Alm.sm at h; omega
 rw [c9L] at h1
 refine qc h1 ?_
 refine qc (a4W s hs h4) ?_
 refine qc (a3E a ha h6) ?_
 refine qc hf ?_
 exact qt
theorem alF_zero {l : List Alm} {s : List Ser} {a : List Opr} : alF l s a = 0 ↔ afF l = 0 ∧ asF s = 0 ∧ ofF a = 0 := by
 unfold alF C2 C2 C2 C2
 (repeat' split) <;> constructor <;> intro h <;> first | omega | (obtain ⟨h1, h2, h3⟩ := h; omega)
end Go.Proofs.YtbhgndiboeppeaaGreatDoor

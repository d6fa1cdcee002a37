/- Crossings of a limit: Crossings and the reference's answer are one. Values at moments and at equal distances: the program's answers and the reference's are one; so the statement ValuesBetween holds. Crossings of a limit, continued: the two functions themselves. slices.DeleteFunc over pieces: the row that is handed over keeps what is not deleted. Reconstruct: what lies between archived samples. Reports: exceptions, doors, Report and the reference's: their answers are one. -/
import Derived.Test.YtbhgndiboeppeaaGreatDoorBas
set_option linter.all false
set_option maxHeartbeats 4000000
set_option maxRecDepth 100000
namespace Go.Proofs.YtbhgndiboeppeaaGreatDoor
open Go Go.Ai
def sd (L v : Int) : Int := if v < L then -1 else if v > L then 1 else 0
theorem O5 (L v : Int) : (v < L ∧ sd L v = -1) ∨ (v > L ∧ sd L v = 1) ∨ (v = L ∧ sd L v = 0) := by
 unfold sd; split
 ·left; exact ⟨by omega, rfl⟩
 ·split
  ·right; left; exact ⟨by omega, rfl⟩
  ·right; right; exact ⟨by omega, rfl⟩
theorem a8B (n : Int) : FC Tryz.prog 93 none [iv n] (fun _ r => r = bv false) := by
 refine fcE Tryz.func93 (aL [[0],[2]]) ?_
 refine qv ?_
 rw [decide_eq_false (by simp)]
theorem r9 (a b : Int) : FC Tryz.prog 53 none [iv a, iv b] (fun _ r => r = iv (sd b a)) := by
 refine fcE Tryz.func53 (aL [[0,1],[0,1,5],[0,1,5,6],[0,1,6,11],[12],[4],[4],[0,1,13],[4],[0,1,16],[4],[19],[4],[4]]) ?_
 refine qc (a8B _) ?_
 refine qc (a8B _) ?_
 refine qv ?_
 (repeat' (first | apply And.intro | intro _)) <;> first | rfl | omega | exact j8 (by first | omega | ((try simp only [sd]); (repeat' split) <;> (first | omega | (simp_all; done) | (simp_all; omega)))) | exact J9 (by first | omega | ((try simp only [sd]); (repeat' split) <;> omega)) | exact a0r (by first | omega | ((try simp only [sd]); (repeat' split) <;> omega)) | exact c6c (by first | omega | ((try simp only [sd]); (repeat' split) <;> omega)) | exact c5V (by first | omega | ((try simp only [sd]); (repeat' split) <;> omega))
def frC (x : Int × Int) : List Cel := [.g (.int .i64 x.1), .g (.int .i64 x.2)]
theorem a1x (x : Int × Int) : frC x = [.g (.int .i64 x.1), .g (.int .i64 x.2)] := (rfl)
theorem c7x (l : List (Int × Int)) : frE (l.map frC) = true := a1Y (fun _ => rfl) l
theorem b3W (l : List (Int × Int)) : H4 (l.map frC) = l.map frC := W6 (fun _ => rfl) l
theorem c2U (l : List (Int × Int)) : a1A (l.map frC) = l.map frC := Y5 (fun _ => rfl) l
attribute [go_sem] a1x c7x b3W c2U
abbrev b0q (fr : Bool) (l : List (Int × Int)) : Val := .one (.sl fr 2 (l.map frC))
def C2 : List Int → Int
 | [] => 0
 | x :: l => if x ≠ 0 then x else C2 l
def d4u (fr : Bool) (l : List Int) (i : Int) : AS := ⟨m9 [(3, iv 0), (6, a1p fr l), (7, iv l.length), (8, iv i)], f9 [], f9 []⟩
theorem a7g (fr : Bool) (l : List Int) (hl : l.length ≤ 4611686018427387904) : FC Tryz.prog 10 none [a1p fr l] (fun _ r => r = iv (C2 l)) := by
 refine fcE Tryz.func10 (aL [[0],[0,3],[3,6,7,8],[3,6,7,8,9],[3,5,6,7,8],[3,5,6,7,8,14],[2],[3,6,7,8],[2]]) ?_
 refine qv ?_
 refine a1d (d4u fr l) (fun i => 0 ≤ i ∧ i ≤ l.length ∧ C2 (l.drop i.toNat) = C2 l) (fun i => (l.length - i).toNat) 0 ⟨by omega, by omega, rfl⟩ rfl ?_
 rintro i ⟨g1, g2, g3⟩
 unfold d4u
 by_cases hi : i < l.length
 ·rw [m7 l i.toNat (by omega), C2] at g3
  have e2 : (i + 1).toNat = i.toNat + 1 := by omega
  refine qv ?_
  refine ⟨fun h => ?_, fun h => ⟨i + 1, ⟨by omega, by omega, ?_⟩, rfl, by omega⟩⟩
  ·rw [if_pos h] at g3; rw [g3]
  ·rw [if_neg h] at g3; rw [e2]; exact g3
 ·refine qv ?_
  rw [← g3, List.drop_eq_nil_of_le (by omega)]
  rfl
theorem e8 {α β : Type} [Inhabited α] (C : α → β) (l : List α) (i : Int) (d : β) (h0 : 0 ≤ i) (h : i < l.length) : (l.map C).getD i.toNat d = C (l.getD i.toNat default) := t7 C l i.toNat d (by omega)
def c4l (L : Int) : Int := if -1000000 ≤ L ∧ L ≤ 1000000 then 0 else 1
theorem a3O (L : Int) : FC Tryz.prog 72 none [iv L] (fun _ r => r = iv (c4l L)) := by
 refine fcE Tryz.func72 (aL [[0],[2]]) ?_
 refine qc (X4 _ _ _) ?_
 refine qv ?_
 (repeat' (first | apply And.intro | intro _)) <;> first | rfl | omega | exact j8 (by first | omega | ((try simp only [c4l]); (repeat' split) <;> (first | omega | (simp_all; done) | (simp_all; omega)))) | exact J9 (by first | omega | ((try simp only [c4l]); (repeat' split) <;> omega)) | exact a0r (by first | omega | ((try simp only [c4l]); (repeat' split) <;> omega)) | exact c6c (by first | omega | ((try simp only [c4l]); (repeat' split) <;> omega)) | exact c5V (by first | omega | ((try simp only [c4l]); (repeat' split) <;> omega))
section
variable {P : Program} {Q : AX → AS → Prop} {s : AS} {k : List KI} {kp : Option Keep} {l : List GI}
theorem N4 {f : FuncId} {H0 X0 H : Hp} {Y0 : Val} {args0 vargs : List Val} {bks rks obs ors : List Nat} {d : Option Nat} (X : Hp) (Y : Val) (p q : Nat → Nat) (hp : ∀ k, p (p k) = k) (hq : ∀ k, q (q k) = k) (hf : FCM P f H0 args0 (fun H' r' => H' = X0 ∧ r' = Y0)) (hna : ∀ x ∈ args0, ∀ xs, x ≠ .tu xs)
  (hH : H0.rn p q = H) (ha : args0.map (rnV p q) = vargs) (hX : X0.rn p q = X) (hY : rnV p q Y0 = Y) (hk : X.bs.map (·.1) = obs ∧ X.rs.map (·.1) = ors) (h : rg P l kp k Q ((s.after ⟨bks, rks, obs, ors, []⟩ X).put d (s.backV ⟨bks, rks, obs, ors, []⟩ Y))) (hb : H0.bs.all (fun x => W3 x.1 == W3 (p x.1)) = true := by rfl) : a6N P f H vargs ⟨bks, rks, obs, ors, []⟩ d l kp k Q s := by
 subst hX; subst hY
 exact a8M p q hp hq hf hna hH ha hk h hb
theorem y6 {f : FuncId} {S0 : List Nat} {H0 X0 H : Hp} {Y0 : Val} {args0 vargs : List Val} {m : CAnn} {d : Option Nat} (X : Hp) (Y : Val) (p q : Nat → Nat) (hp : ∀ k, p (p k) = k) (hq : ∀ k, q (q k) = k) (hf : G9 P f S0 H0 args0 (fun H' r' => H' = X0 ∧ r' = Y0)) (hna : ∀ x ∈ args0, ∀ xs, x ≠ .tu xs)
  (hS : S0.map q = m.sts) (hH : H0.rn p q = H) (ha : args0.map (rnV p q) = vargs) (hX : X0.rn p q = X) (hY : rnV p q Y0 = Y) (hk : X.bs.map (·.1) = m.obs ∧ X.rs.map (·.1) = m.ors) (h : rg P l kp k Q ((s.after m X).put d (s.backV m Y))) (hb : H0.bs.all (fun x => W3 x.1 == W3 (p x.1)) = true := by rfl) : a6N P f H vargs m d l kp k Q s := by
 subst hX; subst hY
 exact a5y p q hp hq hf hna hS hH ha hk h hb
end
def D0 {α : Type} (p : α → Bool) : Int → List α → Int
 | _, [] => -1
 | i, x :: l => if p x = true then i else D0 p (i + 1) l
theorem X2 {α : Type} [Inhabited α] (p : α → Bool) : ∀ (l : List α) (i : Int), 0 ≤ i → (D0 p i l = -1 ∧ ∀ x ∈ l, p x = false) ∨ (i ≤ D0 p i l ∧ D0 p i l < i + l.length ∧ p (l.getD (D0 p i l - i).toNat default) = true ∧ ∀ j : Nat, (j : Int) < D0 p i l - i → p (l.getD j default) = false)
 | [], i, h => .inl ⟨rfl, by simp⟩
 | x :: l, i, h => by
  rw [D0]
  cases hx : p x with
  | true => rw [if_pos rfl]; exact .inr ⟨by omega, by simp; omega, by simp [hx], fun j hj => by omega⟩
  | false =>
   rw [if_neg (by simp)]
   rcases X2 p l (i + 1) (by omega) with ⟨h1, h2⟩ | ⟨h1, h2, h3, h4⟩
   ·exact .inl ⟨h1, fun y hy => by simp only [List.mem_cons] at hy; rcases hy with rfl | hy; exact hx; exact h2 y hy⟩
   ·have e : (D0 p (i + 1) l - i).toNat = (D0 p (i + 1) l - (i + 1)).toNat + 1 := by omega
    refine .inr ⟨by omega, by rw [List.length_cons]; omega, by rw [e, List.getD_cons_succ]; exact h3, fun j hj => ?_⟩
    cases j with
    | zero => simpa using hx
    | succ j => rw [List.getD_cons_succ]; exact h4 j (by omega)
theorem a1m {α : Type} {p : α → Bool} {l : List α} (h : ∀ x ∈ l, p x = false) : l.filter (fun x => !p x) = l := List.filter_eq_self.2 (fun x hx => by rw [h x hx]; rfl)
structure DelI {α : Type} (p : α → Bool) (l : List α) (j k : Int) (cur : List α) : Prop where
 j0 : 0 ≤ j
 jk : j < k
 kn : k ≤ l.length
 len : cur.length = l.length
 tk : cur.take j.toNat = (l.take k.toNat).filter fun x => !p x
 dr : cur.drop k.toNat = l.drop k.toNat
theorem S6 {α : Type} [Inhabited α] (l : List α) (k : Nat) (h : k < l.length) : l.take (k + 1) = l.take k ++ [l.getD k default] := by
 rw [List.take_succ_eq_append_getElem h]; simp [List.getD_eq_getElem?_getD, h]
theorem DelI.start {α : Type} [Inhabited α] {p : α → Bool} {l : List α} {i : Int} (h0 : 0 ≤ i) (h1 : i < l.length) (h2 : p (l.getD i.toNat default) = true) (h3 : ∀ j : Nat, (j : Int) < i → p (l.getD j default) = false) : DelI p l i (i + 1) l := by
 refine ⟨h0, by omega, by omega, rfl, ?_, rfl⟩
 have e : (i + 1).toNat = i.toNat + 1 := by omega
 rw [e, S6 l _ (by omega), List.filter_append]
 have h4 : (l.take i.toNat).filter (fun x => !p x) = l.take i.toNat := a1m (fun x hx => by
  obtain ⟨j, hj, rfl⟩ := List.mem_iff_getElem.1 hx
  rw [List.length_take] at hj
  have := h3 j (by omega)
  rw [List.getElem_take]
  simpa [List.getD_eq_getElem?_getD, show j < l.length by omega] using this)
 rw [h4, List.filter_cons, if_neg (by rw [h2]; simp), List.filter_nil, List.append_nil]
theorem DelI.at {α : Type} [Inhabited α] {p : α → Bool} {l cur : List α} {j k : Int} (h : DelI p l j k cur) (hk : k < l.length) : cur.getD k.toNat default = l.getD k.toNat default := by
 have h1 := h.dr
 have h2 := h.len
 have h3 := h.j0
 have h4 := h.jk
 rw [List.drop_eq_getElem_cons (show k.toNat < cur.length by omega), List.drop_eq_getElem_cons (show k.toNat < l.length by omega)] at h1
 injection h1 with h1 _
 simp [List.getD_eq_getElem?_getD, show k.toNat < cur.length by omega, show k.toNat < l.length by omega, h1]
theorem DelI.drop1 {α : Type} {p : α → Bool} {l cur : List α} {j k : Int} (h : DelI p l j k cur) : cur.drop (k + 1).toNat = l.drop (k + 1).toNat := by
 have h3 := h.j0
 have h4 := h.jk
 have e : (k + 1).toNat = k.toNat + 1 := by omega
 rw [e, ← List.drop_drop, ← List.drop_drop, h.dr]
theorem DelI.del {α : Type} [Inhabited α] {p : α → Bool} {l cur : List α} {j k : Int} (h : DelI p l j k cur) (hk : k < l.length) (hp : p (l.getD k.toNat default) = true) : DelI p l j (k + 1) cur := by
 have h3 := h.j0
 have h4 := h.jk
 refine ⟨h3, by omega, by omega, h.len, ?_, h.drop1⟩
 have e : (k + 1).toNat = k.toNat + 1 := by omega
 rw [e, S6 l _ (by omega), List.filter_append, h.tk, List.filter_cons, if_neg (by rw [hp]; simp), List.filter_nil, List.append_nil]
theorem DelI.put {α : Type} [Inhabited α] {p : α → Bool} {l cur : List α} {j k : Int} (h : DelI p l j k cur) (hk : k < l.length) (hp : p (l.getD k.toNat default) = false) : DelI p l (j + 1) (k + 1) (cur.set j.toNat (l.getD k.toNat default)) := by
 have h2 := h.len
 have h3 := h.j0
 have h4 := h.jk
 refine ⟨by omega, by omega, by omega, by rw [List.length_set]; exact h2, ?_, ?_⟩
 ·have e : (k + 1).toNat = k.toNat + 1 := by omega
  have e2 : (j + 1).toNat = j.toNat + 1 := by omega
  have e3 : (cur.set j.toNat (l.getD k.toNat default)).getD j.toNat default = l.getD k.toNat default := by
   generalize l.getD k.toNat default = x
   simp [List.getD_eq_getElem?_getD, show j.toNat < cur.length by omega]
  rw [e, e2, S6 l _ (by omega), List.filter_append, S6 _ _ (by rw [List.length_set]; omega), List.take_set_of_le (Nat.le_refl _), h.tk, e3, List.filter_cons, if_pos (by rw [hp]; rfl), List.filter_nil]
 ·rw [List.drop_set_of_lt (by omega)]; exact h.drop1
theorem DelI.fin {α : Type} {p : α → Bool} {l cur : List α} {j k : Int} (h : DelI p l j k cur) (hk : ¬ k < l.length) : cur.take j.toNat = l.filter fun x => !p x := by
 have h5 := h.kn
 rw [h.tk, List.take_of_length_le (by omega)]
structure Pc where
 f : Int
 t : Int
 v : Int
 q : Int
 deriving Inhabited
def pcC (x : Pc) : List Cel := [.g (.int .i64 x.f), .g (.int .i64 x.t), .g (.int .i64 x.v), .g (.int .i64 x.q)]
theorem c9e (x : Pc) : pcC x = [.g (.int .i64 x.f), .g (.int .i64 x.t), .g (.int .i64 x.v), .g (.int .i64 x.q)] := (rfl)
theorem d0U (l : List Pc) : frE (l.map pcC) = true := a1Y (fun _ => rfl) l
theorem c4V (l : List Pc) : H4 (l.map pcC) = l.map pcC := W6 (fun _ => rfl) l
theorem c4D (l : List Pc) : a1A (l.map pcC) = l.map pcC := Y5 (fun _ => rfl) l
attribute [go_sem] c9e d0U c4V c4D
def d1s (fr : Bool) (l : List Int) (i : Int) : AS := ⟨m9 [(5, a1p fr l), (6, iv l.length), (7, iv i)], f9 [], f9 []⟩
theorem a7N (fr : Bool) (l : List Int) (hl : l.length ≤ 4611686018427387904) : FC Tryz.prog 77 none [a1p fr l] (fun _ r => r = iv (C2 l)) := by
 refine fcE Tryz.func77 (aL [[0],[5,6,7],[5,6,7,8],[4,5,6,7],[4,5,6,7,12],[2],[5,6,7],[2]]) ?_
 refine qv ?_
 refine j9 (d1s fr l) (fun i => 0 ≤ i ∧ i ≤ l.length ∧ C2 (l.drop i.toNat) = C2 l) (fun i => (l.length - i).toNat) 0 ⟨by omega, by omega, rfl⟩ rfl ?_
 rintro i ⟨g1, g2, g3⟩
 unfold d1s
 by_cases hi : i < l.length
 ·rw [m7 l i.toNat (by omega), C2] at g3
  have e2 : (i + 1).toNat = i.toNat + 1 := by omega
  refine qv ?_
  refine ⟨fun h => ?_, fun h => ⟨i + 1, rfl, ⟨by omega, by omega, ?_⟩, by omega⟩⟩
  ·rw [if_pos h] at g3; rw [g3]
  ·rw [if_neg h] at g3; rw [e2]; exact g3
 ·refine qv ?_
  rw [← g3, List.drop_eq_nil_of_le (by omega)]
  rfl
def c9B (fr fr' : Bool) (l : List Int) (i : Int) : AS := ⟨m9 [(0, a1p fr l), (1, a1p fr' l), (12, iv l.length), (13, iv i)], f9 [], f9 []⟩
theorem b0R (fr fr' : Bool) (l : List Int) (hl : l.length ≤ 4611686018427387904) : FC Tryz.prog 28 none [a1p fr l, a1p fr' l] (fun _ r => r = bv true) := by
 refine fcE Tryz.func28 (aL [[0,1],[0,1,10],[4],[0,1,12,13],[0,1,12,13,14],[0,1,5,12,13],[0,1,12,13,24],[4],[0,1,12,13],[4]]) ?_
 refine qv ?_
 refine j9 (c9B fr fr' l) (fun i => 0 ≤ i ∧ i ≤ l.length) (fun i => (l.length - i).toNat) 0 ⟨by omega, by omega⟩ rfl ?_
 rintro i ⟨g1, g2⟩
 unfold c9B
 by_cases hi : i < l.length
 ·refine qv ?_
  exact ⟨_, rfl, ⟨by omega, by omega⟩, by omega⟩
 ·exact qt
def c6V (cl : FuncId) (cs : List Cel) (l : List (Int × Int)) (i : Int) : AS := ⟨m9 [(0, b0q false l), (1, .one (.fn cl [.ep cs])), (7, iv l.length), (8, iv i)], f9 [], f9 []⟩
theorem c4h (cl : FuncId) (cs : List Cel) (p : Int × Int → Bool) (l : List (Int × Int)) (hl : l.length ≤ 1000000) (hcl : ∀ x ∈ l, FC Tryz.prog cl none [.ag (frC x), .one (.ep cs)] (fun _ r => r = bv (p x))) : FC Tryz.prog 185 none [b0q false l, .one (.fn cl [.ep cs])] (fun _ r => r = iv (D0 p 0 l)) := by
 refine fcE Tryz.func185 (aL [[0,1],[0,1,7,8],[0,1,7,8,9],[0,1,5,7,8],[0,1,5,7,8,16],[4],[0,1,7,8],[4]]) ?_
 refine qv ?_
 refine j9 (c6V cl cs l) (fun i => 0 ≤ i ∧ i ≤ l.length ∧ D0 p i (l.drop i.toNat) = D0 p 0 l) (fun i => (l.length - i).toNat) 0 ⟨by omega, by omega, rfl⟩ rfl ?_
 rintro i ⟨g1, g2, g3⟩
 unfold c6V
 by_cases hi : i < l.length
 ·rw [m7 l i.toNat (by omega), D0] at g3
  have e2 : (i + 1).toNat = i.toNat + 1 := by omega
  refine qv ?_
  refine n6 (hcl _ (j5 _ _ (by omega))) (.inl rfl) ?_
  cases h : p (l.getD i.toNat default) with
  | true => rw [h, if_pos rfl] at g3; refine qv ?_; rw [← g3]
  | false =>
   rw [h, if_neg (by simp)] at g3
   refine qv ?_
   exact ⟨_, rfl, ⟨by omega, by omega, by rw [e2]; exact g3⟩, by omega⟩
 ·rw [List.drop_eq_nil_of_le (by omega), D0] at g3
  refine qv ?_
  rw [← g3]
abbrev P4 (l : List (Int × Int)) : Row := ⟨0, 35, 2, l.map frC⟩
def X9 (out : List (Int × Int)) (t : Int) : List (Int × Int) := out.set ((out.length : Int) - 1).toNat ((out.getD ((out.length : Int) - 1).toNat default).1, t)
theorem R4 (out : List (Int × Int)) (t : Int) : (X9 out t).length = out.length := by unfold X9; rw [List.length_set]
theorem S1 (out : List (Int × Int)) (t : Int) : (X9 out t).map frC = (out.map frC).set ((out.length : Int) - 1).toNat [.g (.int .i64 (out.getD ((out.length : Int) - 1).toNat default).1), .g (.int .i64 t)] := by
 unfold X9; rw [List.map_set]; rfl
theorem Good.all {l : List Smp} (h : Good l) : ∀ s ∈ l, U0 s := fun s hs => by
 obtain ⟨j, hj, rfl⟩ := List.mem_iff_getElem.1 hs
 have := h.ok j hj
 simpa [List.getD_eq_getElem?_getD, hj] using this
end Go.Proofs.YtbhgndiboeppeaaGreatDoor

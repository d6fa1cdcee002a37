/-
 Crossings of a limit: Crossings and the reference's answer are one.
 Values at moments and at equal distances: the program's answers and the reference's are one; so the statement ValuesBetween holds.
 Crossings of a limit, continued: the two functions themselves.
 slices.DeleteFunc over pieces: the row that is handed over keeps what is not deleted.
 Reconstruct: what lies between archived samples.
 Reports: exceptions, doors, Report and the reference's: their answers are one.
-/
import Derived.Test.YtodmofhehabmgaaGreatDoorBas
namespace Go.Proofs.YtodmofhehabmgaaGreatDoor
open Go Go.Ai
set_option linter.unusedSimpArgs false
set_option linter.unusedVariables false
set_option maxHeartbeats 4000000
def frC (x : Int × Int) : List Cel := [.g (.int .i64 x.1), .g (.int .i64 x.2)]
theorem frC_eq (x : Int × Int) : frC x = [.g (.int .i64 x.1), .g (.int .i64 x.2)] := (rfl)
theorem frE_fr (l : List (Int × Int)) : frE (l.map frC) = true := frE_map (fun _ => rfl) l
theorem datE_fr (l : List (Int × Int)) : datE (l.map frC) = l.map frC := datE_map (fun _ => rfl) l
theorem tofE_fr (l : List (Int × Int)) : tofE (l.map frC) = l.map frC := tofE_map (fun _ => rfl) l
attribute [go_sem] frC_eq frE_fr datE_fr tofE_fr
abbrev frsV (fr : Bool) (l : List (Int × Int)) : Val := .one (.sl fr 2 (l.map frC))
end Go.Proofs.YtodmofhehabmgaaGreatDoor
namespace Go.Proofs.YtodmofhehabmgaaGreatDoor
open Go Go.Ai
set_option linter.unusedSimpArgs false
set_option linter.unusedVariables false
set_option maxHeartbeats 4000000
def C_orE : AC := (.seq (.reg false [gI 2 (.mv (oI 0))] (kP [0] [] []))
 (.seq (.reg false [gI 3 (.mv (oI 0))] (kP [0,3] [] []))
 (.seq (.seq (.reg false [gM 6 0,gI 7 (.len (.t 6)),gI 8 (.mv (oI 0))] (kP [3,6,7,8] [] []))
 (.block 0 (.loop (.seq (.reg false [gI 9 (.bin .lss (.t 8) (.t 7))] (kP [3,6,7,8,9] [] []))
 (.seq (.cond (.t 9)
 .skip
 (.exit 0))
 (.seq (.block 1 (.seq (.reg false [gI 10 (.iadr 1 (.t 6) (.t 8)),gI 11 (.load false 1 (.t 10)),gM 5 11] (kP [3,5,6,7,8] [] []))
 (.seq (.reg false [gM 12 5,gM 13 3,gI 14 (.bin .neq (.t 12) (.t 13))] (kP [3,5,6,7,8,14] [] []))
 (.cond (.t 14)
 (.seq (.reg false [gM 15 5,gM 2 15] (kP [2] [] []))
 .ret)
 .skip))))
 (.reg false [gI 16 (.bin .add (.t 8) (oI 1)),gM 8 16] (kP [3,6,7,8] [] []))))))))
 (.seq (.reg false [gM 17 3,gM 2 17] (kP [2] [] []))
 .ret))))
theorem fc_orE : FcT Tryz.prog 15 Tryz.f15 C_orE [.t 2] := fc_mk [aN [0] [] [],aN [0,3] [] [],aN [3,6,7,8] [] [],aN [3,6,7,8,9] [] [],aN [3,5,6,7,8] [] [],aN [3,5,6,7,8,14] [] [],aN [2] [] [],aN [3,6,7,8] [] [],aN [2] [] []] Tryz.func15 (by kernel_rfl)
def orSp : List Int → Int
 | [] => 0
 | x :: l => if x ≠ 0 then x else orSp l
def orSt (fr : Bool) (l : List Int) (i : Int) : AS := ⟨tabV [(3, iv 0), (6, ints fr l), (7, iv l.length), (8, iv i)], tabO [], tabO []⟩
theorem orE_fc (fr : Bool) (l : List Int) (hl : l.length ≤ 4611686018427387904) : FC Tryz.prog 15 none [ints fr l] (fun _ r => r = iv (orSp l)) := by
 refine fc_orE (by simp +arith) ?_
 unfold C_orE
 simp (maxSteps := 1000000) (disch := omega) only [go_sem]
 refine ex_loopI (orSt fr l) (fun i => 0 ≤ i ∧ i ≤ l.length ∧ orSp (l.drop i.toNat) = orSp l) (fun i => (l.length - i).toNat) 0 ⟨by omega, by omega, rfl⟩ rfl ?_
 rintro i ⟨g1, g2, g3⟩
 unfold orSt
 by_cases hi : i < l.length
 ·rw [drop_cons l i.toNat (by omega), orSp] at g3
  have e2 : (i + 1).toNat = i.toNat + 1 := by omega
  simp (maxSteps := 1000000) (disch := omega) only [go_sem]
  refine ⟨fun h => ?_, fun h => ⟨i + 1, ⟨by omega, by omega, ?_⟩, rfl, by omega⟩⟩
  ·rw [if_pos h] at g3; rw [g3]
  ·rw [if_neg h] at g3; rw [e2]; exact g3
 ·simp (maxSteps := 1000000) (disch := omega) only [go_sem]
  rw [← g3, List.drop_eq_nil_of_le (by omega)]
  rfl
end Go.Proofs.YtodmofhehabmgaaGreatDoor
namespace Go.Proofs.YtodmofhehabmgaaGreatDoor
open Go Go.Ai
set_option linter.unusedSimpArgs false
set_option linter.unusedVariables false
set_option maxHeartbeats 4000000
theorem getD_map_at {α β : Type} [Inhabited α] (C : α → β) (l : List α) (i : Int) (d : β) (h0 : 0 ≤ i) (h : i < l.length) : (l.map C).getD i.toNat d = C (l.getD i.toNat default) := getD_map_in C l i.toNat d (by omega)
end Go.Proofs.YtodmofhehabmgaaGreatDoor
namespace Go.Proofs.YtodmofhehabmgaaGreatDoor
open Go Go.Ai
set_option linter.unusedSimpArgs false
set_option linter.unusedVariables false
set_option maxHeartbeats 4000000
section
variable {P : Program} {Q : AX → AS → Prop} {s : AS} {k : List KI} {kp : Option Keep} {l : List GI}
/-- A contract that speaks of other keys, with what comes of it spelled out. -/
theorem CALLM_rnE {f : FuncId} {H0 X0 H : Hp} {Y0 : Val} {args0 vargs : List Val} {bks rks obs ors : List Nat} {d : Option Nat} (X : Hp) (Y : Val) (p q : Nat → Nat) (hp : ∀ k, p (p k) = k) (hq : ∀ k, q (q k) = k) (hf : FCM P f H0 args0 (fun H' r' => H' = X0 ∧ r' = Y0)) (hna : ∀ x ∈ args0, ∀ xs, x ≠ .tu xs)
  (hH : H0.rn p q = H) (ha : args0.map (rnV p q) = vargs) (hX : X0.rn p q = X) (hY : rnV p q Y0 = Y) (hk : X.bs.map (·.1) = obs ∧ X.rs.map (·.1) = ors) (h : rg P l kp k Q ((s.after ⟨bks, rks, obs, ors, []⟩ X).put d (s.backV ⟨bks, rks, obs, ors, []⟩ Y))) (hb : H0.bs.all (fun x => bldK x.1 == bldK (p x.1)) = true := by rfl) : CALLM P f H vargs ⟨bks, rks, obs, ors, []⟩ d l kp k Q s := by
 subst hX; subst hY
 exact CALLM_rn p q hp hq hf hna hH ha hk h hb
theorem CALLM_rnES {f : FuncId} {S0 : List Nat} {H0 X0 H : Hp} {Y0 : Val} {args0 vargs : List Val} {m : CAnn} {d : Option Nat} (X : Hp) (Y : Val) (p q : Nat → Nat) (hp : ∀ k, p (p k) = k) (hq : ∀ k, q (q k) = k) (hf : FCMS P f S0 H0 args0 (fun H' r' => H' = X0 ∧ r' = Y0)) (hna : ∀ x ∈ args0, ∀ xs, x ≠ .tu xs)
  (hS : S0.map q = m.sts) (hH : H0.rn p q = H) (ha : args0.map (rnV p q) = vargs) (hX : X0.rn p q = X) (hY : rnV p q Y0 = Y) (hk : X.bs.map (·.1) = m.obs ∧ X.rs.map (·.1) = m.ors) (h : rg P l kp k Q ((s.after m X).put d (s.backV m Y))) (hb : H0.bs.all (fun x => bldK x.1 == bldK (p x.1)) = true := by rfl) : CALLM P f H vargs m d l kp k Q s := by
 subst hX; subst hY
 exact CALLM_rnS p q hp hq hf hna hS hH ha hk h hb
end
def idxG {α : Type} (p : α → Bool) : Int → List α → Int
 | _, [] => -1
 | i, x :: l => if p x = true then i else idxG p (i + 1) l
theorem idxG_spec {α : Type} [Inhabited α] (p : α → Bool) : ∀ (l : List α) (i : Int), 0 ≤ i → (idxG p i l = -1 ∧ ∀ x ∈ l, p x = false) ∨ (i ≤ idxG p i l ∧ idxG p i l < i + l.length ∧ p (l.getD (idxG p i l - i).toNat default) = true ∧ ∀ j : Nat, (j : Int) < idxG p i l - i → p (l.getD j default) = false)
 | [], i, h => .inl ⟨rfl, by simp⟩
 | x :: l, i, h => by
  rw [idxG]
  cases hx : p x with
  | true => rw [if_pos rfl]; exact .inr ⟨by omega, by simp; omega, by simp [hx], fun j hj => by omega⟩
  | false =>
   rw [if_neg (by simp)]
   rcases idxG_spec p l (i + 1) (by omega) with ⟨h1, h2⟩ | ⟨h1, h2, h3, h4⟩
   ·exact .inl ⟨h1, fun y hy => by simp only [List.mem_cons] at hy; rcases hy with rfl | hy; exact hx; exact h2 y hy⟩
   ·have e : (idxG p (i + 1) l - i).toNat = (idxG p (i + 1) l - (i + 1)).toNat + 1 := by omega
    refine .inr ⟨by omega, by rw [List.length_cons]; omega, by rw [e, List.getD_cons_succ]; exact h3, fun j hj => ?_⟩
    cases j with
    | zero => simpa using hx
    | succ j => rw [List.getD_cons_succ]; exact h4 j (by omega)
theorem filter_none {α : Type} {p : α → Bool} {l : List α} (h : ∀ x ∈ l, p x = false) : l.filter (fun x => !p x) = l := List.filter_eq_self.2 (fun x hx => by rw [h x hx]; rfl)
/-- How far the deletion is: j are kept of the first k. -/
structure DelI {α : Type} (p : α → Bool) (l : List α) (j k : Int) (cur : List α) : Prop where
 j0 : 0 ≤ j
 jk : j < k
 kn : k ≤ l.length
 len : cur.length = l.length
 tk : cur.take j.toNat = (l.take k.toNat).filter fun x => !p x
 dr : cur.drop k.toNat = l.drop k.toNat
theorem take_snoc' {α : Type} [Inhabited α] (l : List α) (k : Nat) (h : k < l.length) : l.take (k + 1) = l.take k ++ [l.getD k default] := by
 rw [List.take_succ_eq_append_getElem h]; simp [List.getD_eq_getElem?_getD, h]
theorem DelI.start {α : Type} [Inhabited α] {p : α → Bool} {l : List α} {i : Int} (h0 : 0 ≤ i) (h1 : i < l.length) (h2 : p (l.getD i.toNat default) = true) (h3 : ∀ j : Nat, (j : Int) < i → p (l.getD j default) = false) : DelI p l i (i + 1) l := by
 refine ⟨h0, by omega, by omega, rfl, ?_, rfl⟩
 have e : (i + 1).toNat = i.toNat + 1 := by omega
 rw [e, take_snoc' l _ (by omega), List.filter_append]
 have h4 : (l.take i.toNat).filter (fun x => !p x) = l.take i.toNat := filter_none (fun x hx => by
  obtain ⟨j, hj, rfl⟩ := List.mem_iff_getElem.1 hx
  rw [List.length_take] at hj
  have := h3 j (by omega)
  rw [List.getElem_take]
  simpa [List.getD_eq_getElem?_getD, show j < l.length by omega] using this)
 rw [h4, List.filter_cons, if_neg (by rw [h2]; simp), List.filter_nil, List.append_nil]
theorem DelI.at {α : Type} [Inhabited α] {p : α → Bool} {l cur : List α} {j k : Int} (h : DelI p l j k cur) (hk : k < l.length) : cur.getD k.toNat default = l.getD k.toNat default := by
 have h1 := h.dr
 have h2 := h.len
 have h3 := h.j0
 have h4 := h.jk
 rw [List.drop_eq_getElem_cons (show k.toNat < cur.length by omega), List.drop_eq_getElem_cons (show k.toNat < l.length by omega)] at h1
 injection h1 with h1 _
 simp [List.getD_eq_getElem?_getD, show k.toNat < cur.length by omega, show k.toNat < l.length by omega, h1]
theorem DelI.drop1 {α : Type} {p : α → Bool} {l cur : List α} {j k : Int} (h : DelI p l j k cur) : cur.drop (k + 1).toNat = l.drop (k + 1).toNat := by
 have h3 := h.j0
 have h4 := h.jk
 have e : (k + 1).toNat = k.toNat + 1 := by omega
 rw [e, ← List.drop_drop, ← List.drop_drop, h.dr]
theorem DelI.del {α : Type} [Inhabited α] {p : α → Bool} {l cur : List α} {j k : Int} (h : DelI p l j k cur) (hk : k < l.length) (hp : p (l.getD k.toNat default) = true) : DelI p l j (k + 1) cur := by
 have h3 := h.j0
 have h4 := h.jk
 refine ⟨h3, by omega, by omega, h.len, ?_, h.drop1⟩
 have e : (k + 1).toNat = k.toNat + 1 := by omega
 rw [e, take_snoc' l _ (by omega), List.filter_append, h.tk, List.filter_cons, if_neg (by rw [hp]; simp), List.filter_nil, List.append_nil]
theorem DelI.put {α : Type} [Inhabited α] {p : α → Bool} {l cur : List α} {j k : Int} (h : DelI p l j k cur) (hk : k < l.length) (hp : p (l.getD k.toNat default) = false) : DelI p l (j + 1) (k + 1) (cur.set j.toNat (l.getD k.toNat default)) := by
 have h2 := h.len
 have h3 := h.j0
 have h4 := h.jk
 refine ⟨by omega, by omega, by omega, by rw [List.length_set]; exact h2, ?_, ?_⟩
 ·have e : (k + 1).toNat = k.toNat + 1 := by omega
  have e2 : (j + 1).toNat = j.toNat + 1 := by omega
  have e3 : (cur.set j.toNat (l.getD k.toNat default)).getD j.toNat default = l.getD k.toNat default := by
   generalize l.getD k.toNat default = x
   simp [List.getD_eq_getElem?_getD, show j.toNat < cur.length by omega]
  rw [e, e2, take_snoc' l _ (by omega), List.filter_append, take_snoc' _ _ (by rw [List.length_set]; omega), List.take_set_of_le (Nat.le_refl _), h.tk, e3, List.filter_cons, if_pos (by rw [hp]; rfl), List.filter_nil]
 ·rw [List.drop_set_of_lt (by omega)]; exact h.drop1
theorem DelI.fin {α : Type} {p : α → Bool} {l cur : List α} {j k : Int} (h : DelI p l j k cur) (hk : ¬ k < l.length) : cur.take j.toNat = l.filter fun x => !p x := by
 have h5 := h.kn
 rw [h.tk, List.take_of_length_le (by omega)]
/-- A piece: its window, value and quality. -/
structure Pc where
 f : Int
 t : Int
 v : Int
 q : Int
 deriving Inhabited
def pcC (x : Pc) : List Cel := [.g (.int .i64 x.f), .g (.int .i64 x.t), .g (.int .i64 x.v), .g (.int .i64 x.q)]
theorem pcC_eq (x : Pc) : pcC x = [.g (.int .i64 x.f), .g (.int .i64 x.t), .g (.int .i64 x.v), .g (.int .i64 x.q)] := (rfl)
theorem frE_pc (l : List Pc) : frE (l.map pcC) = true := frE_map (fun _ => rfl) l
theorem datE_pc (l : List Pc) : datE (l.map pcC) = l.map pcC := datE_map (fun _ => rfl) l
theorem tofE_pc (l : List Pc) : tofE (l.map pcC) = l.map pcC := tofE_map (fun _ => rfl) l
attribute [go_sem] pcC_eq frE_pc datE_pc tofE_pc
end Go.Proofs.YtodmofhehabmgaaGreatDoor
namespace Go.Proofs.YtodmofhehabmgaaGreatDoor
open Go Go.Ai
set_option linter.unusedSimpArgs false
set_option linter.unusedVariables false
set_option maxHeartbeats 4000000
end Go.Proofs.YtodmofhehabmgaaGreatDoor
namespace Go.Proofs.YtodmofhehabmgaaGreatDoor
open Go Go.Ai
set_option linter.unusedSimpArgs false
set_option linter.unusedVariables false
set_option maxHeartbeats 4000000
def C_first : AC := (.seq (.reg false [gI 2 (.mv (oI 0))] (kP [0] [] []))
 (.seq (.seq (.reg false [gM 5 0,gI 6 (.len (.t 5)),gI 7 (.mv (oI 0))] (kP [5,6,7] [] []))
 (.block 0 (.loop (.seq (.reg false [gI 8 (.bin .lss (.t 7) (.t 6))] (kP [5,6,7,8] [] []))
 (.seq (.cond (.t 8)
 .skip
 (.exit 0))
 (.seq (.block 1 (.seq (.reg false [gI 9 (.iadr 1 (.t 5) (.t 7)),gI 10 (.load false 1 (.t 9)),gM 4 10] (kP [4,5,6,7] [] []))
 (.seq (.reg false [gM 11 4,gI 12 (.bin .neq (.t 11) (oI 0))] (kP [4,5,6,7,12] [] []))
 (.cond (.t 12)
 (.seq (.reg false [gM 13 4,gM 2 13] (kP [2] [] []))
 .ret)
 .skip))))
 (.reg false [gI 14 (.bin .add (.t 7) (oI 1)),gM 7 14] (kP [5,6,7] [] []))))))))
 (.seq (.reg false [gI 2 (.mv (oI 0))] (kP [2] [] []))
 .ret)))
theorem fc_first : FcT Tryz.prog 107 Tryz.f107 C_first [.t 2] := fc_mk [aN [0] [] [],aN [5,6,7] [] [],aN [5,6,7,8] [] [],aN [4,5,6,7] [] [],aN [4,5,6,7,12] [] [],aN [2] [] [],aN [5,6,7] [] [],aN [2] [] []] Tryz.func107 (by kernel_rfl)
def fstSt (fr : Bool) (l : List Int) (i : Int) : AS := ⟨tabV [(5, ints fr l), (6, iv l.length), (7, iv i)], tabO [], tabO []⟩
theorem first_fc (fr : Bool) (l : List Int) (hl : l.length ≤ 4611686018427387904) : FC Tryz.prog 107 none [ints fr l] (fun _ r => r = iv (orSp l)) := by
 refine fc_first (by simp +arith) ?_
 unfold C_first
 simp (maxSteps := 1000000) (disch := omega) only [go_sem]
 refine ex_loop1 (fstSt fr l) (fun i => 0 ≤ i ∧ i ≤ l.length ∧ orSp (l.drop i.toNat) = orSp l) (fun i => (l.length - i).toNat) 0 ⟨by omega, by omega, rfl⟩ rfl ?_
 rintro i ⟨g1, g2, g3⟩
 unfold fstSt
 by_cases hi : i < l.length
 ·rw [drop_cons l i.toNat (by omega), orSp] at g3
  have e2 : (i + 1).toNat = i.toNat + 1 := by omega
  simp (maxSteps := 1000000) (disch := omega) only [go_sem]
  refine ⟨fun h => ?_, fun h => ⟨i + 1, rfl, ⟨by omega, by omega, ?_⟩, by omega⟩⟩
  ·rw [if_pos h] at g3; rw [g3]
  ·rw [if_neg h] at g3; rw [e2]; exact g3
 ·simp (maxSteps := 1000000) (disch := omega) only [go_sem]
  rw [← g3, List.drop_eq_nil_of_le (by omega)]
  rfl
end Go.Proofs.YtodmofhehabmgaaGreatDoor

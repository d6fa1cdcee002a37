
/-
 Crossings of a limit: Crossings and the reference's answer are one.
 Values at moments and at equal distances: the program's answers and the reference's are one; so the statement ValuesBetween holds.
 Crossings of a limit, continued: the two functions themselves.
 slices.DeleteFunc over pieces: the row that is handed over keeps what is not deleted.
 Reconstruct: what lies between archived samples.
 Reports: exceptions, doors, Report and the reference's: their answers are one.
-/
import Derived.Test.YtcagelfmngmocaaGreatDoorBas
namespace Go.Proofs.YtcagelfmngmocaaGreatDoor
open Go Go.Ai
set_option linter.unusedSimpArgs false
set_option linter.unusedVariables false
set_option maxHeartbeats 4000000
def C_cmpInt : AC := (.seq (.reg false [gI 4 (.mv (oI 0))] (kP [0,1] [] []))
 (.seq (.reg false [gM 7 0,gI 8 (.call (.f 105) [(.t 7)]),gM 5 8] (kP [0,1,5] [] []))
 (.seq (.reg false [gM 9 1,gI 10 (.call (.f 105) [(.t 9)]),gM 6 10] (kP [0,1,5,6] [] []))
 (.seq (.seq (.reg false [gM 11 5] (kP [0,1,6,11] [] []))
 (.cond (.t 11)
 (.seq (.seq (.reg false [gM 12 6] (kP [12] [] []))
 (.cond (.t 12)
 (.seq (.reg false [gI 4 (.mv (oI 0))] (kP [4] [] []))
 .ret)
 .skip))
 (.seq (.reg false [gI 4 (.mv (oI (-1)))] (kP [4] [] []))
 .ret))
 .skip))
 (.seq (.seq (.reg false [gM 13 6] (kP [0,1,13] [] []))
 (.cond (.t 13)
 (.seq (.reg false [gI 4 (.mv (oI 1))] (kP [4] [] []))
 .ret)
 .skip))
 (.seq (.seq (.reg false [gM 14 0,gM 15 1,gI 16 (.bin .lss (.t 14) (.t 15))] (kP [0,1,16] [] []))
 (.cond (.t 16)
 (.seq (.reg false [gI 4 (.mv (oI (-1)))] (kP [4] [] []))
 .ret)
 .skip))
 (.seq (.seq (.reg false [gM 17 0,gM 18 1,gI 19 (.bin .gtr (.t 17) (.t 18))] (kP [19] [] []))
 (.cond (.t 19)
 (.seq (.reg false [gI 4 (.mv (oI 1))] (kP [4] [] []))
 .ret)
 .skip))
 (.seq (.reg false [gI 4 (.mv (oI 0))] (kP [4] [] []))
 .ret))))))))
theorem fc_cmpInt : FcT Tryz.prog 50 Tryz.f50 C_cmpInt [.t 4] := fc_mk [aN [0,1] [] [],aN [0,1,5] [] [],aN [0,1,5,6] [] [],aN [0,1,6,11] [] [],aN [12] [] [],aN [4] [] [],aN [4] [] [],aN [0,1,13] [] [],aN [4] [] [],aN [0,1,16] [] [],aN [4] [] [],aN [19] [] [],aN [4] [] [],aN [4] [] []] Tryz.func50 (by kernel_rfl)
def C_isNaN : AC := (.seq (.reg false [gI 2 (.mv (.v (.bool false)))] (kP [0] [] []))
 (.seq (.reg false [gM 3 0,gM 4 0,gI 5 (.bin .neq (.t 3) (.t 4)),gM 2 5] (kP [2] [] []))
 .ret))
theorem fc_isNaN : FcT Tryz.prog 105 Tryz.f105 C_isNaN [.t 2] := fc_mk [aN [0] [] [],aN [2] [] []] Tryz.func105 (by kernel_rfl)
def C_limitFault : AC := (.seq (.reg false [gI 2 (.mv (oI 0))] (kP [0] [] []))
 (.seq (.reg false [gM 3 0,gI 4 (.call (.f 177) [(.t 3),(oI (-1000000)),(oI 1000000)]),gM 2 4] (kP [2] [] []))
 .ret))
theorem fc_limitFault : FcT Tryz.prog 130 Tryz.f130 C_limitFault [.t 2] := fc_mk [aN [0] [] [],aN [2] [] []] Tryz.func130 (by kernel_rfl)
/-- On which side of a limit a value is. -/
def sd (L v : Int) : Int := if v < L then -1 else if v > L then 1 else 0
theorem sd_cases (L v : Int) : (v < L ∧ sd L v = -1) ∨ (v > L ∧ sd L v = 1) ∨ (v = L ∧ sd L v = 0) := by
 unfold sd; split
 ·left; exact ⟨by omega, rfl⟩
 ·split
  ·right; left; exact ⟨by omega, rfl⟩
  ·right; right; exact ⟨by omega, rfl⟩
theorem isNaN_fc (n : Int) : FC Tryz.prog 105 none [iv n] (fun _ r => r = bv false) := by
 refine fc_isNaN (by simp +arith) ?_
 unfold C_isNaN
 simp (maxSteps := 1000000) (disch := omega) only [go_sem]
 rw [decide_eq_false (by simp)]
theorem cmpInt_fc (a b : Int) : FC Tryz.prog 50 none [iv a, iv b] (fun _ r => r = iv (sd b a)) := by
 refine fc_cmpInt (by simp +arith) ?_
 unfold C_cmpInt
 simp (maxSteps := 1000000) (disch := omega) only [go_sem]
 refine CALL_det (isNaN_fc _) (.inl rfl) ?_
 simp (maxSteps := 1000000) (disch := omega) only [go_sem]
 refine CALL_det (isNaN_fc _) (.inl rfl) ?_
 simp (maxSteps := 1000000) (disch := omega) only [go_sem]
 (repeat' (first | apply And.intro | intro _)) <;> first | rfl | omega | exact iv_congr (by first | omega | ((try simp only [sd]); (repeat' split) <;> (first | omega | (simp_all; done) | (simp_all; omega)))) | exact bv_dec (by first | omega | ((try simp only [sd]); (repeat' split) <;> omega)) | exact bv_ndec (by first | omega | ((try simp only [sd]); (repeat' split) <;> omega)) | exact bv_f (by first | omega | ((try simp only [sd]); (repeat' split) <;> omega)) | exact bv_t (by first | omega | ((try simp only [sd]); (repeat' split) <;> omega))
def frC (x : Int × Int) : List Cel := [.g (.int .i64 x.1), .g (.int .i64 x.2)]
theorem frC_eq (x : Int × Int) : frC x = [.g (.int .i64 x.1), .g (.int .i64 x.2)] := (rfl)
theorem frE_fr (l : List (Int × Int)) : frE (l.map frC) = true := frE_map (fun _ => rfl) l
theorem datE_fr (l : List (Int × Int)) : datE (l.map frC) = l.map frC := datE_map (fun _ => rfl) l
theorem tofE_fr (l : List (Int × Int)) : tofE (l.map frC) = l.map frC := tofE_map (fun _ => rfl) l
attribute [go_sem] frC_eq frE_fr datE_fr tofE_fr
abbrev frsV (fr : Bool) (l : List (Int × Int)) : Val := .one (.sl fr 2 (l.map frC))
end Go.Proofs.YtcagelfmngmocaaGreatDoor
namespace Go.Proofs.YtcagelfmngmocaaGreatDoor
open Go Go.Ai
set_option linter.unusedSimpArgs false
set_option linter.unusedVariables false
set_option maxHeartbeats 4000000
def orSp : List Int → Int
 | [] => 0
 | x :: l => if x ≠ 0 then x else orSp l
end Go.Proofs.YtcagelfmngmocaaGreatDoor
namespace Go.Proofs.YtcagelfmngmocaaGreatDoor
open Go Go.Ai
set_option linter.unusedSimpArgs false
set_option linter.unusedVariables false
set_option maxHeartbeats 4000000
theorem getD_map_at {α β : Type} [Inhabited α] (C : α → β) (l : List α) (i : Int) (d : β) (h0 : 0 ≤ i) (h : i < l.length) : (l.map C).getD i.toNat d = C (l.getD i.toNat default) := getD_map_in C l i.toNat d (by omega)
def limF (L : Int) : Int := if -1000000 ≤ L ∧ L ≤ 1000000 then 0 else 1
theorem limitFault_fc (L : Int) : FC Tryz.prog 130 none [iv L] (fun _ r => r = iv (limF L)) := by
 refine fc_limitFault (by simp +arith) ?_
 unfold C_limitFault
 simp (maxSteps := 1000000) (disch := omega) only [go_sem]
 refine CALL_det (spanFault1_fc _ _ _) (.inl rfl) ?_
 simp (maxSteps := 1000000) (disch := omega) only [go_sem]
 (repeat' (first | apply And.intro | intro _)) <;> first | rfl | omega | exact iv_congr (by first | omega | ((try simp only [limF]); (repeat' split) <;> (first | omega | (simp_all; done) | (simp_all; omega)))) | exact bv_dec (by first | omega | ((try simp only [limF]); (repeat' split) <;> omega)) | exact bv_ndec (by first | omega | ((try simp only [limF]); (repeat' split) <;> omega)) | exact bv_f (by first | omega | ((try simp only [limF]); (repeat' split) <;> omega)) | exact bv_t (by first | omega | ((try simp only [limF]); (repeat' split) <;> omega))
end Go.Proofs.YtcagelfmngmocaaGreatDoor
namespace Go.Proofs.YtcagelfmngmocaaGreatDoor
open Go Go.Ai
set_option linter.unusedSimpArgs false
set_option linter.unusedVariables false
set_option maxHeartbeats 4000000
section
variable {P : Program} {Q : AX → AS → Prop} {s : AS} {k : List KI} {kp : Option Keep} {l : List GI}
/-- A contract that speaks of other keys, with what comes of it spelled out. -/
theorem CALLM_rnE {f : FuncId} {H0 X0 H : Hp} {Y0 : Val} {args0 vargs : List Val} {bks rks obs ors : List Nat} {d : Option Nat} (X : Hp) (Y : Val) (p q : Nat → Nat) (hp : ∀ k, p (p k) = k) (hq : ∀ k, q (q k) = k) (hf : FCM P f H0 args0 (fun H' r' => H' = X0 ∧ r' = Y0)) (hna : ∀ x ∈ args0, ∀ xs, x ≠ .tu xs)
  (hH : H0.rn p q = H) (ha : args0.map (rnV p q) = vargs) (hX : X0.rn p q = X) (hY : rnV p q Y0 = Y) (hk : X.bs.map (·.1) = obs ∧ X.rs.map (·.1) = ors) (h : rg P l kp k Q ((s.after ⟨bks, rks, obs, ors, []⟩ X).put d (s.backV ⟨bks, rks, obs, ors, []⟩ Y))) : CALLM P f H vargs ⟨bks, rks, obs, ors, []⟩ d l kp k Q s := by
 subst hX; subst hY
 exact CALLM_rn p q hp hq hf hna hH ha hk h
theorem CALLM_rnES {f : FuncId} {S0 : List Nat} {H0 X0 H : Hp} {Y0 : Val} {args0 vargs : List Val} {m : CAnn} {d : Option Nat} (X : Hp) (Y : Val) (p q : Nat → Nat) (hp : ∀ k, p (p k) = k) (hq : ∀ k, q (q k) = k) (hf : FCMS P f S0 H0 args0 (fun H' r' => H' = X0 ∧ r' = Y0)) (hna : ∀ x ∈ args0, ∀ xs, x ≠ .tu xs)
  (hS : S0.map q = m.sts) (hH : H0.rn p q = H) (ha : args0.map (rnV p q) = vargs) (hX : X0.rn p q = X) (hY : rnV p q Y0 = Y) (hk : X.bs.map (·.1) = m.obs ∧ X.rs.map (·.1) = m.ors) (h : rg P l kp k Q ((s.after m X).put d (s.backV m Y))) : CALLM P f H vargs m d l kp k Q s := by
 subst hX; subst hY
 exact CALLM_rnS p q hp hq hf hna hS hH ha hk h
end
def idxG {α : Type} (p : α → Bool) : Int → List α → Int
 | _, [] => -1
 | i, x :: l => if p x = true then i else idxG p (i + 1) l
theorem idxG_spec {α : Type} [Inhabited α] (p : α → Bool) : ∀ (l : List α) (i : Int), 0 ≤ i → (idxG p i l = -1 ∧ ∀ x ∈ l, p x = false) ∨ (i ≤ idxG p i l ∧ idxG p i l < i + l.length ∧ p (l.getD (idxG p i l - i).toNat default) = true ∧ ∀ j : Nat, (j : Int) < idxG p i l - i → p (l.getD j default) = false)
 | [], i, h => .inl ⟨rfl, by simp⟩
 | x :: l, i, h => by
  rw [idxG]
  cases hx : p x with
  | true => rw [if_pos rfl]; exact .inr ⟨by omega, by simp; omega, by simp [hx], fun j hj => by omega⟩
  | false =>
   rw [if_neg (by simp)]
   rcases idxG_spec p l (i + 1) (by omega) with ⟨h1, h2⟩ | ⟨h1, h2, h3, h4⟩
   ·exact .inl ⟨h1, fun y hy => by simp only [List.mem_cons] at hy; rcases hy with rfl | hy; exact hx; exact h2 y hy⟩
   ·have e : (idxG p (i + 1) l - i).toNat = (idxG p (i + 1) l - (i + 1)).toNat + 1 := by omega
    refine .inr ⟨by omega, by rw [List.length_cons]; omega, by rw [e, List.getD_cons_succ]; exact h3, fun j hj => ?_⟩
    cases j with
    | zero => simpa using hx
    | succ j => rw [List.getD_cons_succ]; exact h4 j (by omega)
theorem filter_none {α : Type} {p : α → Bool} {l : List α} (h : ∀ x ∈ l, p x = false) : l.filter (fun x => !p x) = l := List.filter_eq_self.2 (fun x hx => by rw [h x hx]; rfl)
/-- How far the deletion is: j are kept of the first k. -/
structure DelI {α : Type} (p : α → Bool) (l : List α) (j k : Int) (cur : List α) : Prop where
 j0 : 0 ≤ j
 jk : j < k
 kn : k ≤ l.length
 len : cur.length = l.length
 tk : cur.take j.toNat = (l.take k.toNat).filter fun x => !p x
 dr : cur.drop k.toNat = l.drop k.toNat
theorem take_snoc' {α : Type} [Inhabited α] (l : List α) (k : Nat) (h : k < l.length) : l.take (k + 1) = l.take k ++ [l.getD k default] := by
 rw [List.take_succ_eq_append_getElem h]; simp [List.getD_eq_getElem?_getD, h]
theorem DelI.start {α : Type} [Inhabited α] {p : α → Bool} {l : List α} {i : Int} (h0 : 0 ≤ i) (h1 : i < l.length) (h2 : p (l.getD i.toNat default) = true) (h3 : ∀ j : Nat, (j : Int) < i → p (l.getD j default) = false) : DelI p l i (i + 1) l := by
 refine ⟨h0, by omega, by omega, rfl, ?_, rfl⟩
 have e : (i + 1).toNat = i.toNat + 1 := by omega
 rw [e, take_snoc' l _ (by omega), List.filter_append]
 have h4 : (l.take i.toNat).filter (fun x => !p x) = l.take i.toNat := filter_none (fun x hx => by
  obtain ⟨j, hj, rfl⟩ := List.mem_iff_getElem.1 hx
  rw [List.length_take] at hj
  have := h3 j (by omega)
  rw [List.getElem_take]
  simpa [List.getD_eq_getElem?_getD, show j < l.length by omega] using this)
 rw [h4, List.filter_cons, if_neg (by rw [h2]; simp), List.filter_nil, List.append_nil]
theorem DelI.at {α : Type} [Inhabited α] {p : α → Bool} {l cur : List α} {j k : Int} (h : DelI p l j k cur) (hk : k < l.length) : cur.getD k.toNat default = l.getD k.toNat default := by
 have h1 := h.dr
 have h2 := h.len
 have h3 := h.j0
 have h4 := h.jk
 rw [List.drop_eq_getElem_cons (show k.toNat < cur.length by omega), List.drop_eq_getElem_cons (show k.toNat < l.length by omega)] at h1
 injection h1 with h1 _
 simp [List.getD_eq_getElem?_getD, show k.toNat < cur.length by omega, show k.toNat < l.length by omega, h1]
theorem DelI.drop1 {α : Type} {p : α → Bool} {l cur : List α} {j k : Int} (h : DelI p l j k cur) : cur.drop (k + 1).toNat = l.drop (k + 1).toNat := by
 have h3 := h.j0
 have h4 := h.jk
 have e : (k + 1).toNat = k.toNat + 1 := by omega
 rw [e, ← List.drop_drop, ← List.drop_drop, h.dr]
theorem DelI.del {α : Type} [Inhabited α] {p : α → Bool} {l cur : List α} {j k : Int} (h : DelI p l j k cur) (hk : k < l.length) (hp : p (l.getD k.toNat default) = true) : DelI p l j (k + 1) cur := by
 have h3 := h.j0
 have h4 := h.jk
 refine ⟨h3, by omega, by omega, h.len, ?_, h.drop1⟩
 have e : (k + 1).toNat = k.toNat + 1 := by omega
 rw [e, take_snoc' l _ (by omega), List.filter_append, h.tk, List.filter_cons, if_neg (by rw [hp]; simp), List.filter_nil, List.append_nil]
theorem DelI.put {α : Type} [Inhabited α] {p : α → Bool} {l cur : List α} {j k : Int} (h : DelI p l j k cur) (hk : k < l.length) (hp : p (l.getD k.toNat default) = false) : DelI p l (j + 1) (k + 1) (cur.set j.toNat (l.getD k.toNat default)) := by
 have h2 := h.len
 have h3 := h.j0
 have h4 := h.jk
 refine ⟨by omega, by omega, by omega, by rw [List.length_set]; exact h2, ?_, ?_⟩
 ·have e : (k + 1).toNat = k.toNat + 1 := by omega
  have e2 : (j + 1).toNat = j.toNat + 1 := by omega
  have e3 : (cur.set j.toNat (l.getD k.toNat default)).getD j.toNat default = l.getD k.toNat default := by
   generalize l.getD k.toNat default = x
   simp [List.getD_eq_getElem?_getD, show j.toNat < cur.length by omega]
  rw [e, e2, take_snoc' l _ (by omega), List.filter_append, take_snoc' _ _ (by rw [List.length_set]; omega), List.take_set_of_le (Nat.le_refl _), h.tk, e3, List.filter_cons, if_pos (by rw [hp]; rfl), List.filter_nil]
 ·rw [List.drop_set_of_lt (by omega)]; exact h.drop1
theorem DelI.fin {α : Type} {p : α → Bool} {l cur : List α} {j k : Int} (h : DelI p l j k cur) (hk : ¬ k < l.length) : cur.take j.toNat = l.filter fun x => !p x := by
 have h5 := h.kn
 rw [h.tk, List.take_of_length_le (by omega)]
/-- A piece: its window, value and quality. -/
structure Pc where
 f : Int
 t : Int
 v : Int
 q : Int
 deriving Inhabited
def pcC (x : Pc) : List Cel := [.g (.int .i64 x.f), .g (.int .i64 x.t), .g (.int .i64 x.v), .g (.int .i64 x.q)]
theorem pcC_eq (x : Pc) : pcC x = [.g (.int .i64 x.f), .g (.int .i64 x.t), .g (.int .i64 x.v), .g (.int .i64 x.q)] := (rfl)
theorem frE_pc (l : List Pc) : frE (l.map pcC) = true := frE_map (fun _ => rfl) l
theorem datE_pc (l : List Pc) : datE (l.map pcC) = l.map pcC := datE_map (fun _ => rfl) l
theorem tofE_pc (l : List Pc) : tofE (l.map pcC) = l.map pcC := tofE_map (fun _ => rfl) l
attribute [go_sem] pcC_eq frE_pc datE_pc tofE_pc
end Go.Proofs.YtcagelfmngmocaaGreatDoor
namespace Go.Proofs.YtcagelfmngmocaaGreatDoor
open Go Go.Ai
set_option linter.unusedSimpArgs false
set_option linter.unusedVariables false
set_option maxHeartbeats 4000000
def C_recClos : AC := (.seq (.reg false [gI 2 (.box (.t 0)),gI 4 (.mv (oI 0))] (kP [1,2] [2] []))
 (.seq (.reg false [gI 5 (.fadr 0 (.t 2)),gI 6 (.load false 1 (.t 5)),gM 7 1,gI 8 (.bin .sub (.t 6) (.t 7)),gM 4 8] (kP [4] [] []))
 .ret))
theorem fc_recClos : FcT Tryz.prog 156 Tryz.f156 C_recClos [.t 4] := fc_mk [aN [1,2] [2] [],aN [4] [] []] Tryz.func156 (by kernel_rfl)
def C_rec_ : AC := (.seq (.reg false [gI 4 (.alloc [(.int .i64 (0)),(.int .i64 (0))]),gI 5 (.mv (.v (.bool false)))] (kP [0,1,4] [4] []))
 (.seq (.reg false [gM 12 0,gM 13 1,gI 14 (.call (.f 155) [(.t 12),(.t 13),(.f 156)]),gM 11 14,gI 15 (.extr (.t 11) 0),gI 16 (.extr (.t 11) 1),gM 6 15,gM 7 16] (kP [0,1,4,6,7] [4] []))
 (.seq (.seq (.reg false [gM 17 7] (kP [0,1,4,6,17] [4] []))
 (.cond (.t 17)
 (.seq (.reg true [gM 18 0,gM 19 6,gI 20 (.iadr 3 (.t 18) (.t 19)),gI 21 (.fadr 1 (.t 20)),gI 22 (.load false 1 (.t 21)),gI 23 (.build [(.int .i64 (0)),(.int .i64 (0))] [(0,1,(.t 22)),(1,1,(oI 1))]),gM 24 0,gM 25 6,gN (.chk (.t 24) none),gI 26 (.iadr 3 (.t 24) (.t 25)),gN (.chk (.t 26) none),gI 27 (.fadr 2 (.t 26)),gN (.chk (.t 27) none),gI 28 (.load false 1 (.t 27)),gI 29 (.bin .neq (.t 28) (oI 2)),gN (.store 2 (.t 4) (.t 23)),gM 5 29] (kP [4,5] [4] []))
 .ret)
 .skip))
 (.seq (.seq (.reg false [gM 30 6,gI 31 (.bin .eql (.t 30) (oI 0)),gM 32 31,gG 33 32 false (.mv (.t 6)),gG 34 32 false (.mv (.t 0)),gG 35 32 false (.len (.t 34)),gG 36 32 false (.bin .eql (.t 33) (.t 35)),gI 37 (.pick (.t 32) (.v (.bool true)) (.t 36))] (kP [0,1,4,6,37] [4] []))
 (.cond (.t 37)
 (.seq (.reg false [gI 38 (.build [(.int .i64 (0)),(.int .i64 (0))] []),gN (.store 2 (.t 4) (.t 38)),gI 5 (.mv (.v (.bool false)))] (kP [4,5] [4] []))
 .ret)
 .skip))
 (.seq (.reg true [gM 39 0,gM 40 6,gI 41 (.bin .sub (.t 40) (oI 1)),gN (.chk (.t 39) none),gI 42 (.iadr 3 (.t 39) (.t 41)),gN (.chk (.t 42) none),gI 43 (.load true 3 (.t 42)),gM 44 0,gM 45 6,gN (.chk (.t 44) none),gI 46 (.iadr 3 (.t 44) (.t 45)),gN (.chk (.t 46) none),gI 47 (.load true 3 (.t 46)),gI 8 (.alloc [(.int .i64 (0)),(.int .i64 (0)),(.int .i64 (0))]),gI 9 (.alloc [(.int .i64 (0)),(.int .i64 (0)),(.int .i64 (0))]),gN (.store 3 (.t 8) (.t 43)),gN (.store 3 (.t 9) (.t 47))] (kP [1,4,8,9] [4,8,9] []))
 (.seq (.reg false [gI 48 (.fadr 0 (.t 9)),gI 49 (.load false 1 (.t 48)),gI 50 (.fadr 0 (.t 8)),gI 51 (.load false 1 (.t 50)),gI 52 (.bin .sub (.t 49) (.t 51)),gM 10 52] (kP [1,4,8,9,10] [4,8,9] []))
 (.seq (.reg true [gI 53 (.fadr 1 (.t 8)),gI 54 (.load false 1 (.t 53)),gM 55 10,gI 56 (.bin .mul (.t 54) (.t 55)),gI 57 (.fadr 1 (.t 9)),gI 58 (.load false 1 (.t 57)),gI 59 (.fadr 1 (.t 8)),gI 60 (.load false 1 (.t 59)),gI 61 (.bin .sub (.t 58) (.t 60)),gM 62 1,gI 63 (.fadr 0 (.t 8)),gI 64 (.load false 1 (.t 63)),gI 65 (.bin .sub (.t 62) (.t 64)),gI 66 (.bin .mul (.t 61) (.t 65)),gI 67 (.bin .add (.t 56) (.t 66)),gM 68 10,gI 69 (.build [(.int .i64 (0)),(.int .i64 (0))] [(0,1,(.t 67)),(1,1,(.t 68))]),gI 70 (.fadr 2 (.t 8)),gI 71 (.load false 1 (.t 70)),gI 72 (.bin .neq (.t 71) (oI 2)),gM 73 72,⟨none,some (73,true),.chk (.t 9) (some 9)⟩,gG 74 73 true (.fadr 2 (.t 9)),⟨none,some (73,true),.chk (.t 74) (some 9)⟩,gG 75 73 true (.load false 1 (.t 74)),gG 76 73 true (.bin .neq (.t 75) (oI 2)),gI 77 (.pick (.t 73) (.t 76) (.v (.bool false))),gN (.chk (.t 4) (some 4)),gN (.store 2 (.t 4) (.t 69)),gM 5 77] (kP [4,5] [4] []))
 .ret)))))))
theorem fc_rec_ : FcT Tryz.prog 108 Tryz.f108 C_rec_ [.cell 4 true 2, .t 5] := fc_mk [aN [0,1,4] [4] [],aN [0,1,4,6,7] [4] [],aN [0,1,4,6,17] [4] [],⟨(kP [4,5] [4] []),[],[(8,none),(9,none),(10,none)],[],[]⟩,aN [0,1,4,6,37] [4] [],aN [4,5] [4] [],⟨(kP [1,4,8,9] [4,8,9] []),[],[(3,none),(4,none),(7,none),(8,none)],[],[]⟩,aN [1,4,8,9,10] [4,8,9] [],⟨(kP [4,5] [4] []),[],[(21,(some 9)),(22,(some 9)),(25,(some 4))],[],[]⟩] Tryz.func108 (by kernel_rfl)
def C_reconstruct : AC := (.seq (.reg false [gI 4 (.alloc [(.int .i64 (0)),(.int .i64 (0))]),gI 5 (.mv (.v (.bool false))),gI 6 (.mv (oI 0))] (kP [0,1,4] [4] []))
 (.seq (.seq (.reg false [gM 10 0,gI 11 (.call (.f 107) [(.t 10)]),gM 7 11] (kP [0,1,4,7] [4] []))
 (.seq (.reg false [gM 12 7,gI 13 (.bin .neq (.t 12) (oI 0))] (kP [0,1,4,7,13] [4] []))
 (.cond (.t 13)
 (.seq (.reg false [gI 14 (.build [(.int .i64 (0)),(.int .i64 (0))] []),gM 15 7,gN (.store 2 (.t 4) (.t 14)),gI 5 (.mv (.v (.bool false))),gM 6 15] (kP [4,5,6] [4] []))
 .ret)
 .skip)))
 (.seq (.seq (.reg false [gM 16 1,gI 17 (.call (.f 43) [(.t 16)]),gI 18 (.un .not (.t 17))] (kP [0,1,4,18] [4] []))
 (.cond (.t 18)
 (.seq (.reg false [gI 19 (.build [(.int .i64 (0)),(.int .i64 (0))] []),gN (.store 2 (.t 4) (.t 19)),gI 5 (.mv (.v (.bool false))),gI 6 (.mv (oI 1))] (kP [4,5,6] [4] []))
 .ret)
 .skip))
 (.seq (.reg false [gM 21 0,gM 22 1,gI 23 (.call (.f 108) [(.t 21),(.t 22)]),gM 20 23,gI 24 (.extr (.t 20) 0),gI 25 (.extr (.t 20) 1),gI 8 (.alloc [(.int .i64 (0)),(.int .i64 (0))]),gN (.store 2 (.t 8) (.t 24)),gM 9 25] (kP [4,8,9] [4,8] []))
 (.seq (.seq (.reg false [gM 26 9,gI 27 (.un .not (.t 26))] (kP [4,8,27] [4,8] []))
 (.cond (.t 27)
 (.seq (.reg false [gI 28 (.build [(.int .i64 (0)),(.int .i64 (0))] []),gN (.store 2 (.t 4) (.t 28)),gI 5 (.mv (.v (.bool false))),gI 6 (.mv (oI 0))] (kP [4,5,6] [4] []))
 .ret)
 .skip))
 (.seq (.reg false [gI 29 (.fadr 0 (.t 8)),gI 30 (.load false 1 (.t 29)),gI 31 (.fadr 1 (.t 8)),gI 32 (.load false 1 (.t 31)),gI 33 (.call (.f 109) [(.t 30),(.t 32)]),gN (.store 2 (.t 4) (.t 33)),gI 5 (.mv (.v (.bool true))),gI 6 (.mv (oI 0))] (kP [4,5,6] [4] []))
 .ret))))))
theorem fc_reconstruct : FcT Tryz.prog 52 Tryz.f52 C_reconstruct [.cell 4 true 2, .t 5, .t 6] := fc_mk [aN [0,1,4] [4] [],aN [0,1,4,7] [4] [],aN [0,1,4,7,13] [4] [],aN [4,5,6] [4] [],aN [0,1,4,18] [4] [],aN [4,5,6] [4] [],aN [4,8,9] [4,8] [],aN [4,8,27] [4,8] [],aN [4,5,6] [4] [],aN [4,5,6] [4] []] Tryz.func52 (by kernel_rfl)
def bsgSt (cl : FuncId) (l : List Smp) (at_ : Int) (x : Int × Int) : AS := ⟨tabV [(0, smps false l), (1, iv at_), (2, .one (.fn cl [])), (8, iv l.length), (9, iv x.1), (10, iv x.2)], tabO [], tabO []⟩
theorem bsg_fc (cl : FuncId) (l : List Smp) (at_ : Int) (hg : Good l) (hcl : ∀ x, okSmp x → FC Tryz.prog cl none [smpV x, iv at_] (fun _ r => r = iv (x.a - at_))) (ha : 0 ≤ at_ ∧ at_ ≤ 345686400000) : FC Tryz.prog 155 none [smps false l, iv at_, .one (.fn cl [])]
  (fun _ r => r = .tu [iv (pos l at_), bv (decide (pos l at_ < l.length ∧ (l.getD (pos l at_).toNat default).a = at_))]) := by
 have hl := hg.len
 refine fc_bsf (by simp +arith) ?_
 unfold C_bsf
 simp (maxSteps := 1000000) (disch := omega) only [go_sem]
 refine ex_loopI (bsgSt cl l at_) (fun x => 0 ≤ x.1 ∧ x.1 ≤ x.2 ∧ x.2 ≤ l.length ∧ (∀ j : Nat, j < x.1 → (l.getD j default).a < at_) ∧ (∀ j : Nat, x.2 ≤ j → j < l.length → at_ ≤ (l.getD j default).a)) (fun x => (x.2 - x.1).toNat) (0, l.length) ⟨by simp, by simp, by simp, fun j hj => by simp at hj; omega, fun j hj hj2 => by simp at hj; omega⟩ rfl ?_
 rintro ⟨i, j⟩ ⟨g1, g2, g3, g4, g5⟩
 simp only at g1 g2 g3 g4 g5
 unfold bsgSt
 simp (maxSteps := 1000000) (disch := omega) only [go_sem]
 have eh : IntKind.i64.wrap ((i + j).fdiv (2 ^ min (Int.toNat 1) 64)) = (i + j) / 2 := by
  have : (i + j).fdiv (2 ^ min (Int.toNat 1) 64) = (i + j) / 2 := Int.fdiv_eq_ediv_of_nonneg _ (by decide)
  rw [this, wrap_i64 _ (by omega) (by omega)]
 simp only [eh]
 refine ⟨fun hij => ?_, fun hij => ?_⟩
 ·have hb : ((i + j) / 2).toNat < l.length := by omega
  have hok := hg.ok _ hb
  rw [getD_map_in smpC l ((i + j) / 2).toNat [] hb]
  simp (maxSteps := 1000000) (disch := omega) only [go_sem]
  refine CALL_det (hcl _ hok) (.inl rfl) ?_
  unfold okSmp at hok
  simp (maxSteps := 1000000) (disch := omega) only [go_sem]
  refine ⟨fun h => ⟨((i + j) / 2 + 1, j), ⟨by simp only; omega, by simp only; omega, g3, fun m hm => ?_, g5⟩, rfl, by simp only; omega⟩, fun h => ⟨(i, (i + j) / 2), ⟨g1, by simp only; omega, by simp only; omega, g4, fun m hm hm2 => ?_⟩, rfl, by simp only; omega⟩⟩
  ·simp only at hm
   have := hg.le m ((i + j) / 2).toNat (by omega) hb
   omega
  ·simp only at hm
   have := hg.le ((i + j) / 2).toNat m (by omega) hm2
   omega
 ·have hij' : i = j := by omega
  subst hij'
  refine ⟨fun h => ?_, fun h => ?_⟩
  ·have hok := hg.ok i.toNat (by omega)
   rw [getD_map_in smpC l i.toNat [] (by omega)]
   simp (maxSteps := 1000000) (disch := omega) only [go_sem]
   refine CALL_det (hcl _ hok) (.inl rfl) ?_
   simp (maxSteps := 1000000) (disch := omega) only [go_sem]
   rw [← pos_eq g1 g3 g4 g5]
   exact tu2_congr rfl (bv_dec (by omega))
  ·rw [← pos_eq g1 g3 g4 g5]
   exact tu2_congr rfl (bv_f (by omega))
theorem recClos_fc (x : Smp) (at_ : Int) (h : okSmp x) (ha : 0 ≤ at_ ∧ at_ ≤ 345686400000) : FC Tryz.prog 156 none [smpV x, iv at_] (fun _ r => r = iv (x.a - at_)) := by
 refine fc_recClos (by simp +arith) ?_
 unfold okSmp at h
 unfold C_recClos
 simp (maxSteps := 1000000) (disch := omega) only [go_sem]
/-- The value at a moment, not in lowest terms; false: there is none. -/
def recSp (l : List Smp) (at_ : Int) : (Int × Int) × Bool :=
 if pos l at_ < l.length ∧ (l.getD (pos l at_).toNat default).a = at_ then (((l.getD (pos l at_).toNat default).v, 1), decide ((l.getD (pos l at_).toNat default).q ≠ 2))
 else if pos l at_ = 0 ∨ pos l at_ = l.length then ((0, 0), false)
 else ((lineN (l.getD (pos l at_ - 1).toNat default) (l.getD (pos l at_).toNat default) at_, (l.getD (pos l at_).toNat default).a - (l.getD (pos l at_ - 1).toNat default).a), decide ((l.getD (pos l at_ - 1).toNat default).q ≠ 2) && decide ((l.getD (pos l at_).toNat default).q ≠ 2))
theorem rec_fc (l : List Smp) (at_ : Int) (hg : Good l) (ha : 0 ≤ at_ ∧ at_ ≤ 345686400000) : FC Tryz.prog 108 none [smps false l, iv at_] (fun _ r => r = .tu [.ag [.g (.int .i64 (recSp l at_).1.1), .g (.int .i64 (recSp l at_).1.2)], bv (recSp l at_).2]) := by
 refine fc_rec_ (by simp +arith) ?_
 have hl := hg.len
 have hp := pos_bd hg at_
 unfold C_rec_
 simp (maxSteps := 1000000) (disch := omega) only [go_sem]
 refine CALL_det (bsg_fc _ l at_ hg (fun x hx => recClos_fc x at_ hx ha) ha) (.inl rfl) ?_
 unfold recSp
 by_cases h1 : pos l at_ < l.length ∧ (l.getD (pos l at_).toNat default).a = at_
 ·have e1 : (l.map smpC).getD (pos l at_).toNat [] = smpC (l.getD (pos l at_).toNat default) := getD_map_in _ _ _ _ (by omega)
  rw [if_pos h1, decide_eq_true h1]
  simp (maxSteps := 1000000) (disch := omega) only [go_sem]
 ·rw [if_neg h1, decide_eq_false h1]
  by_cases h2 : pos l at_ = 0
  ·rw [if_pos (.inl h2)]
   simp (maxSteps := 1000000) (disch := omega) only [go_sem]
  ·by_cases h3 : pos l at_ = l.length
   ·rw [if_pos (.inr h3)]
    simp (maxSteps := 1000000) (disch := omega) only [go_sem]
   ·rw [if_neg (by omega)]
    have hoa := hg.ok (pos l at_ - 1).toNat (by omega)
    have hob := hg.ok (pos l at_).toNat (by omega)
    have hup := hg.up (pos l at_ - 1).toNat (pos l at_).toNat (by omega) (by omega)
    have hb := lineN_bd hoa hob ha
    have e1 : (l.map smpC).getD (pos l at_ - 1).toNat [] = smpC (l.getD (pos l at_ - 1).toNat default) := getD_map_in _ _ _ _ (by omega)
    have e2 : (l.map smpC).getD (pos l at_).toNat [] = smpC (l.getD (pos l at_).toNat default) := getD_map_in _ _ _ _ (by omega)
    have hN : lineN (l.getD (pos l at_ - 1).toNat default) (l.getD (pos l at_).toNat default) at_ = (l.getD (pos l at_ - 1).toNat default).v * ((l.getD (pos l at_).toNat default).a - (l.getD (pos l at_ - 1).toNat default).a) + ((l.getD (pos l at_).toNat default).v - (l.getD (pos l at_ - 1).toNat default).v) * (at_ - (l.getD (pos l at_ - 1).toNat default).a) := rfl
    rw [hN]
    unfold okSmp at hoa hob
    by_cases h4 : (l.getD (pos l at_ - 1).toNat default).q = 2
    ·rw [decide_eq_false (show ¬((l.getD (pos l at_ - 1).toNat default).q ≠ 2) from fun h => h h4), Bool.false_and]
     simp (maxSteps := 1000000) (disch := omega) only [go_sem]
    ·rw [decide_eq_true (show (l.getD (pos l at_ - 1).toNat default).q ≠ 2 from h4), Bool.true_and]
     simp (maxSteps := 1000000) (disch := omega) only [go_sem]
def recoSp (l : List Smp) (at_ : Int) : (Int × Int) × Bool × Int :=
 if serFault l ≠ 0 then ((0, 0), false, serFault l) else if ¬(0 ≤ at_ ∧ at_ ≤ 345686399999) then ((0, 0), false, 1) else if (recSp l at_).2 = false then ((0, 0), false, 0) else ((lowN (recSp l at_).1.1 (recSp l at_).1.2, lowD (recSp l at_).1.1 (recSp l at_).1.2), true, 0)
theorem recSp_bd {l : List Smp} (hg : Good l) {at_ : Int} (ha : 0 ≤ at_ ∧ at_ ≤ 345686400000) (h : (recSp l at_).2 = true) : (-2000000000000000000 ≤ (recSp l at_).1.1 ∧ (recSp l at_).1.1 ≤ 2000000000000000000) ∧ 1 ≤ (recSp l at_).1.2 ∧ (recSp l at_).1.2 ≤ 345686400000 := by
 have hp := pos_bd hg at_
 unfold recSp at h ⊢
 by_cases h1 : pos l at_ < l.length ∧ (l.getD (pos l at_).toNat default).a = at_
 ·have := hg.ok (pos l at_).toNat (by omega)
  unfold okSmp at this
  rw [if_pos h1]; simp only; omega
 ·rw [if_neg h1] at h ⊢
  by_cases h2 : pos l at_ = 0 ∨ pos l at_ = l.length
  ·rw [if_pos h2] at h; cases h
  ·rw [if_neg h2] at h ⊢
   have hoa := hg.ok (pos l at_ - 1).toNat (by omega)
   have hob := hg.ok (pos l at_).toNat (by omega)
   have hup := hg.up (pos l at_ - 1).toNat (pos l at_).toNat (by omega) (by omega)
   have hb := lineN_bd hoa hob ha
   unfold okSmp at hoa hob
   simp only [lineN]; omega
theorem reconstruct_fc (l : List Smp) (hl : l.length ≤ 4611686018427387904) (at_ : Int) : FC Tryz.prog 52 none [smps false l, iv at_] (fun _ r => r = .tu [.ag [.g (.int .i64 (recoSp l at_).1.1), .g (.int .i64 (recoSp l at_).1.2)], bv (recoSp l at_).2.1, iv (recoSp l at_).2.2]) := by
 refine fc_reconstruct (by simp +arith) ?_
 unfold C_reconstruct recoSp
 simp (maxSteps := 1000000) (disch := omega) only [go_sem]
 refine CALL_det (checkSeries_fc l hl) (.inl rfl) ?_
 by_cases h1 : serFault l = 0
 ·have hg := good_of h1
  rw [if_neg (by omega)]
  simp (maxSteps := 1000000) (disch := omega) only [go_sem]
  refine CALL_det (moment_fc _) (.inl rfl) ?_
  by_cases h2 : 0 ≤ at_ ∧ at_ ≤ 345686399999
  ·rw [if_neg (by omega), decide_eq_true h2]
   simp (maxSteps := 1000000) (disch := omega) only [go_sem]
   refine CALL_det (rec_fc l at_ hg (by omega)) (.inl rfl) ?_
   have hb := recSp_bd hg (at_ := at_) (by omega)
   generalize recSp l at_ = x at *
   obtain ⟨⟨n, d⟩, b⟩ := x
   cases b with
   | false => simp (maxSteps := 1000000) (disch := omega) only [go_sem]
   | true =>
    obtain ⟨hb1, hb2, hb3⟩ := hb rfl
    simp only at hb1 hb2 hb3
    simp (maxSteps := 1000000) (disch := omega) only [go_sem]
    refine CALL_det (fraction_fc n d (by omega) (by omega) (by omega)) (.inl rfl) ?_
    simp (maxSteps := 1000000) (disch := omega) only [go_sem]
  ·rw [if_pos (by omega), decide_eq_false h2]
   simp (maxSteps := 1000000) (disch := omega) only [go_sem]
 ·rw [if_pos h1]
  simp (maxSteps := 1000000) (disch := omega) only [go_sem]
end Go.Proofs.YtcagelfmngmocaaGreatDoor
namespace Go.Proofs.YtcagelfmngmocaaGreatDoor
open Go Go.Ai
set_option linter.unusedSimpArgs false
set_option linter.unusedVariables false
set_option maxHeartbeats 4000000
def C_first : AC := (.seq (.reg false [gI 2 (.mv (oI 0))] (kP [0] [] []))
 (.seq (.seq (.reg false [gM 5 0,gI 6 (.len (.t 5)),gI 7 (.mv (oI 0))] (kP [5,6,7] [] []))
 (.block 0 (.loop (.seq (.reg false [gI 8 (.bin .lss (.t 7) (.t 6))] (kP [5,6,7,8] [] []))
 (.seq (.cond (.t 8)
 .skip
 (.exit 0))
 (.seq (.block 1 (.seq (.reg false [gI 9 (.iadr 1 (.t 5) (.t 7)),gI 10 (.load false 1 (.t 9)),gM 4 10] (kP [4,5,6,7] [] []))
 (.seq (.reg false [gM 11 4,gI 12 (.bin .neq (.t 11) (oI 0))] (kP [4,5,6,7,12] [] []))
 (.cond (.t 12)
 (.seq (.reg false [gM 13 4,gM 2 13] (kP [2] [] []))
 .ret)
 .skip))))
 (.reg false [gI 14 (.bin .add (.t 7) (oI 1)),gM 7 14] (kP [5,6,7] [] []))))))))
 (.seq (.reg false [gI 2 (.mv (oI 0))] (kP [2] [] []))
 .ret)))
theorem fc_first : FcT Tryz.prog 55 Tryz.f55 C_first [.t 2] := fc_mk [aN [0] [] [],aN [5,6,7] [] [],aN [5,6,7,8] [] [],aN [4,5,6,7] [] [],aN [4,5,6,7,12] [] [],aN [2] [] [],aN [5,6,7] [] [],aN [2] [] []] Tryz.func55 (by kernel_rfl)
def C_contInts : AC := (.seq (.reg false [gI 4 (.mv (.v (.bool false)))] (kP [0,1] [] []))
 (.seq (.reg false [gM 5 0,gM 6 1,gI 7 (.call (.f 69) [(.t 5),(.t 6)]),gI 8 (.bin .geq (.t 7) (oI 0)),gM 4 8] (kP [4] [] []))
 .ret))
theorem fc_contInts : FcT Tryz.prog 24 Tryz.f24 C_contInts [.t 4] := fc_mk [aN [0,1] [] [],aN [4] [] []] Tryz.func24 (by kernel_rfl)
def C_indexInts : AC := (.seq (.reg false [gI 4 (.mv (oI 0))] (kP [0,1] [] []))
 (.seq (.seq (.reg false [gM 6 0,gI 7 (.len (.t 6)),gI 8 (.mv (oI 0))] (kP [0,1,7,8] [] []))
 (.block 0 (.loop (.seq (.reg false [gI 9 (.bin .lss (.t 8) (.t 7))] (kP [0,1,7,8,9] [] []))
 (.seq (.cond (.t 9)
 .skip
 (.exit 0))
 (.seq (.block 1 (.seq (.reg false [gM 10 8,gM 5 10] (kP [0,1,5,7,8] [] []))
 (.seq (.reg false [gM 11 1,gM 12 0,gM 13 5,gI 14 (.iadr 1 (.t 12) (.t 13)),gI 15 (.load false 1 (.t 14)),gI 16 (.bin .eql (.t 11) (.t 15))] (kP [0,1,5,7,8,16] [] []))
 (.cond (.t 16)
 (.seq (.reg false [gM 17 5,gM 4 17] (kP [4] [] []))
 .ret)
 .skip))))
 (.reg false [gI 18 (.bin .add (.t 8) (oI 1)),gM 8 18] (kP [0,1,7,8] [] []))))))))
 (.seq (.reg false [gI 4 (.mv (oI (-1)))] (kP [4] [] []))
 .ret)))
theorem fc_indexInts : FcT Tryz.prog 69 Tryz.f69 C_indexInts [.t 4] := fc_mk [aN [0,1] [] [],aN [0,1,7,8] [] [],aN [0,1,7,8,9] [] [],aN [0,1,5,7,8] [] [],aN [0,1,5,7,8,16] [] [],aN [4] [] [],aN [0,1,7,8] [] [],aN [4] [] []] Tryz.func69 (by kernel_rfl)
def fstSt (fr : Bool) (l : List Int) (i : Int) : AS := ⟨tabV [(5, ints fr l), (6, iv l.length), (7, iv i)], tabO [], tabO []⟩
theorem first_fc (fr : Bool) (l : List Int) (hl : l.length ≤ 4611686018427387904) : FC Tryz.prog 55 none [ints fr l] (fun _ r => r = iv (orSp l)) := by
 refine fc_first (by simp +arith) ?_
 unfold C_first
 simp (maxSteps := 1000000) (disch := omega) only [go_sem]
 refine ex_loop1 (fstSt fr l) (fun i => 0 ≤ i ∧ i ≤ l.length ∧ orSp (l.drop i.toNat) = orSp l) (fun i => (l.length - i).toNat) 0 ⟨by omega, by omega, rfl⟩ rfl ?_
 rintro i ⟨g1, g2, g3⟩
 unfold fstSt
 by_cases hi : i < l.length
 ·rw [drop_cons l i.toNat (by omega), orSp] at g3
  have e2 : (i + 1).toNat = i.toNat + 1 := by omega
  simp (maxSteps := 1000000) (disch := omega) only [go_sem]
  refine ⟨fun h => ?_, fun h => ⟨i + 1, rfl, ⟨by omega, by omega, ?_⟩, by omega⟩⟩
  ·rw [if_pos h] at g3; rw [g3]
  ·rw [if_neg h] at g3; rw [e2]; exact g3
 ·simp (maxSteps := 1000000) (disch := omega) only [go_sem]
  rw [← g3, List.drop_eq_nil_of_le (by omega)]
  rfl
def idxE (x : Int) : Int → List Int → Int
 | _, [] => -1
 | i, y :: l => if x = y then i else idxE x (i + 1) l
theorem idxE_mem (x : Int) : ∀ (l : List Int) (i : Int), 0 ≤ i → (0 ≤ idxE x i l ↔ x ∈ l)
 | [], i, h => by simp [idxE]
 | y :: l, i, h => by
  rw [idxE, List.mem_cons]
  by_cases hx : x = y
  ·rw [if_pos hx]; simp [hx, h]
  ·rw [if_neg hx, idxE_mem x l (i + 1) (by omega)]; simp [hx]
def ixiSt (fr : Bool) (l : List Int) (x : Int) (i : Int) : AS := ⟨tabV [(0, ints fr l), (1, iv x), (7, iv l.length), (8, iv i)], tabO [], tabO []⟩
theorem indexInts_fc (fr : Bool) (l : List Int) (hl : l.length ≤ 4611686018427387904) (x : Int) : FC Tryz.prog 69 none [ints fr l, iv x] (fun _ r => r = iv (idxE x 0 l)) := by
 refine fc_indexInts (by simp +arith) ?_
 unfold C_indexInts
 simp (maxSteps := 1000000) (disch := omega) only [go_sem]
 refine ex_loop1 (ixiSt fr l x) (fun i => 0 ≤ i ∧ i ≤ l.length ∧ idxE x i (l.drop i.toNat) = idxE x 0 l) (fun i => (l.length - i).toNat) 0 ⟨by omega, by omega, rfl⟩ rfl ?_
 rintro i ⟨g1, g2, g3⟩
 unfold ixiSt
 by_cases hi : i < l.length
 ·rw [drop_cons l i.toNat (by omega), idxE] at g3
  have e2 : (i + 1).toNat = i.toNat + 1 := by omega
  by_cases h : x = l.getD i.toNat default
  ·rw [if_pos h] at g3
   simp (maxSteps := 1000000) (disch := omega) only [go_sem]
   rw [← g3]
  ·rw [if_neg h] at g3
   simp (maxSteps := 1000000) (disch := omega) only [go_sem]
   exact ⟨_, rfl, ⟨by omega, by omega, by rw [e2]; exact g3⟩, by omega⟩
 ·rw [List.drop_eq_nil_of_le (by omega), idxE] at g3
  simp (maxSteps := 1000000) (disch := omega) only [go_sem]
  rw [← g3]
theorem contInts_fc (fr : Bool) (l : List Int) (hl : l.length ≤ 4611686018427387904) (x : Int) : FC Tryz.prog 24 none [ints fr l, iv x] (fun _ r => r = bv (decide (x ∈ l))) := by
 refine fc_contInts (by simp +arith) ?_
 unfold C_contInts
 simp (maxSteps := 1000000) (disch := omega) only [go_sem]
 refine CALL_det (indexInts_fc false l hl x) (.inl rfl) ?_
 simp (maxSteps := 1000000) (disch := omega) only [go_sem]
 exact bv_dec (idxE_mem x l 0 (by omega))
end Go.Proofs.YtcagelfmngmocaaGreatDoor


/-
 The state of an alarm is its last change in the log. Plain Lean.
 The state of an alarm is that of its last change in the log: the walk.
-/
import Derived.Test.YtcagelfmngmocaaGreatDoorSns
import Derived.Test.YtcagelfmngmocaaGreatDoorLog
import Derived.Test.YtcagelfmngmocaaGreatDoorAcl
import Derived.Test.YtcagelfmngmocaaGreatDoorAgl
import Derived.Test.YtcagelfmngmocaaGreatDoorAcb
namespace Go.Proofs.YtcagelfmngmocaaGreatDoor
open Go Go.Ai
set_option linter.unusedSimpArgs false
set_option linter.unusedVariables false
set_option maxHeartbeats 4000000
/-! ### windows and events are not before 0 -/
def nnW (l : List (Int × Int)) : Prop := ∀ w ∈ l, 0 ≤ w.1 ∧ 0 ≤ w.2
theorem setTo_nn {l : List (Int × Int)} {t : Int} (h : nnW l) (ht : 0 ≤ t) : nnW (setTo l t) := fun w hw => by
 unfold setTo at hw
 by_cases h0 : l.length = 0
 ·have : l = [] := List.length_eq_zero_iff.1 h0
  subst this; simp at hw
 ·rcases List.mem_or_eq_of_mem_set hw with hw | rfl
  ·exact h w hw
  ·exact ⟨(h _ (getD_mem l _ (by omega))).1, ht⟩
theorem actOn_nn {on off un nx a : Int} {x y : Bool} {s : ActX} (h : nnW s.out) (ha : 0 ≤ a) (hu : 0 ≤ un) : nnW (actOn on off un nx a x y s).out := by
 unfold actOn
 simp only []
 have h1 : ∀ t, 0 ≤ max a t := fun t => by omega
 have h2 : ∀ t, nnW (s.out ++ [(max a t, un)]) := fun t w hw => by
  rcases List.mem_append.1 hw with hw | hw
  ·exact h w hw
  ·simp at hw; subst hw; exact ⟨h1 t, hu⟩
 (repeat' split) <;> first | exact setTo_nn (h2 _) (h1 _) | exact setTo_nn h (h1 _) | exact h2 _ | exact h
theorem actGo_nn (kd lim db on off : Int) {un : Int} (hu : 0 ≤ un) : ∀ (l : List Smp) (s : ActX), (∀ x ∈ l, 0 ≤ x.a) → nnW s.out → nnW (actGo kd lim db on off un l s).out
 | [], s, _, h => h
 | [x], s, hl, h => actOn_nn h (hl x (by simp)) hu
 | x :: y :: r, s, hl, h => actGo_nn kd lim db on off hu (y :: r) _ (fun z hz => hl z (by simp [hz])) (actOn_nn h (hl x (by simp)) hu)
theorem winsA_nn {s : List Ser} (hs : SerOk s) (x : Alm) : nnW (winsA s x) := by
 unfold winsA actW
 exact actGo_nn _ _ _ _ _ (by omega) _ _ (fun z hz => ((samO_good hs x.t).all z hz).1) (fun w hw => by simp at hw)
theorem opF_ok {x : Opr} (h : opF x = 0) : keyOk x.b = true ∧ (1 ≤ x.no ∧ x.no ≤ 2000) ∧ (0 ≤ x.at_ ∧ x.at_ < 345686400000) ∧ (1 ≤ x.kd ∧ x.kd ≤ 3) ∧ keyOk x.al = true ∧ (x.kd = 2 → x.at_ < x.un ∧ x.un ≤ 345686400000) ∧ (x.kd ≠ 2 → x.un = 0) := by
 unfold opF at h
 split at h
 ·omega
 split at h
 ·omega
 split at h
 ·omega
 split at h
 ·omega
 split at h
 ·omega
 split at h
 ·omega
 ·rename_i h1 h2 h3 h4 h5 h6
  exact ⟨by simpa using h1, by omega, by omega, by omega, by simpa using h4, by omega, by omega⟩
theorem evs0_nn {l : List Alm} {s : List Ser} {a : List Opr} (hs : SerOk s) (ha : ActOk a) (e : Ev) (he : e ∈ evs0 l s a) : 0 ≤ e.a := by
 unfold evs0 at he
 rcases List.mem_append.1 he with he | he
 ·obtain ⟨i, hi, hm⟩ := mem_evAs he
  unfold evA at hm
  obtain ⟨v, hv, hm⟩ := List.mem_flatMap.1 hm
  have := winsA_nn hs _ v hv
  simp only [List.mem_cons, List.not_mem_nil, or_false] at hm
  rcases hm with rfl | rfl
  ·exact this.1
  ·exact this.2
 ·obtain ⟨i, hi, hm⟩ := mem_evBs he
  have ho := opF_ok (ha.flt i hi)
  unfold evB at hm
  rcases List.mem_cons.1 hm with rfl | hm
  ·exact ho.2.2.1.1
  ·split at hm
   ·rename_i hc
    simp only [List.mem_cons, List.not_mem_nil, or_false] at hm
    subst hm
    have := ho.2.2.2.2.2.1 hc.1
    simp only; omega
   ·simp at hm
/-! ### what has been told last -/
def lastS (key : ByteArray) : List Std → Std → Std
 | [], d => d
 | z :: r, d => lastS key r (if z.al = key then z else d)
theorem lastS_app (key : ByteArray) : ∀ (o p : List Std) (d : Std), lastS key (o ++ p) d = lastS key p (lastS key o d)
 | [], p, d => rfl
 | z :: r, p, d => by rw [List.cons_append, lastS, lastS, lastS_app key r]
theorem keys_inj {l : List Alm} (h : AscG Alm.k l) {i j : Nat} (hi : i < l.length) (hj : j < l.length) (he : (l.getD i default).k = (l.getD j default).k) : i = j := by
 rcases Nat.lt_trichotomy i j with h1 | h1 | h1
 ·have := h i j h1 hj; rw [he] at this; exact absurd this (ltS_irr _)
 ·exact h1
 ·have := h j i h1 hi; rw [he] at this; exact absurd this (ltS_irr _)
theorem idxA_self {l : List Alm} (h : AscG Alm.k l) {i : Nat} (hi : i < l.length) : idxA l (l.getD i default).k = i := by
 unfold idxA
 have := idxG_eq (fun x : Alm => decide (x.k = (l.getD i default).k)) l 0 i hi (fun j hj => decide_eq_false fun he => by have := keys_inj h (by omega) hi he; omega) (decide_eq_true rfl)
 omega
structure LgI (l : List Alm) (to : Int) (s : Sit) : Prop where
 n : s.td.length = l.length
 k : ∀ i, i < l.length → (s.td.getD i default).al = (l.getD i default).k
 t : ∀ i, i < l.length → lastS (l.getD i default).k s.out ⟨(l.getD i default).k, 1, 0⟩ = s.td.getD i default
 b : ∀ z ∈ s.out, 0 ≤ z.si ∧ z.si ≤ to
theorem LgI.app {l : List Alm} {to : Int} {s : Sit} (h : LgI l to s) (a : List Opr) (e : Ev) : LgI l to (appE l a e s) := by
 obtain ⟨h1, h2, h3, h4⟩ := h
 have e1 := (appE_len l a e s).2.1
 have e2 : (appE l a e s).out = s.out := by
  unfold appE
  split
  ·split <;> rfl
  ·rfl
 exact ⟨by rw [e1]; exact h1, by rw [e1]; exact h2, by rw [e1, e2]; exact h3, by rw [e2]; exact h4⟩
theorem LgI.rpt {l : List Alm} {to : Int} {s : Sit} (hk : AscG Alm.k l) (h : LgI l to s) (up : List (List Int)) {at_ : Int} (ha : 0 ≤ at_ ∧ at_ ≤ to) {j : Nat} (hj : j < l.length) : LgI l to (rptX up at_ j s) := by
 unfold rptX
 split
 ·obtain ⟨h1, h2, h3, h4⟩ := h
  refine ⟨by simpa using h1, fun i hi => ?_, fun i hi => ?_, fun z hz => ?_⟩
  ·simp only
   by_cases e : j = i
   ·subst e
    rw [List.getD_eq_getElem?_getD, List.getElem?_set_self (by omega)]
    exact h2 j hi
   ·rw [List.getD_eq_getElem?_getD, List.getElem?_set_ne e, ← List.getD_eq_getElem?_getD]
    exact h2 i hi
  ·simp only
   rw [lastS_app, h3 i hi]
   by_cases e : j = i
   ·subst e
    rw [List.getD_eq_getElem?_getD (l := s.td.set _ _), List.getElem?_set_self (by omega), lastS, lastS, if_pos (h2 j hi)]; rfl
   ·rw [List.getD_eq_getElem?_getD (l := s.td.set _ _), List.getElem?_set_ne e, ← List.getD_eq_getElem?_getD, lastS, lastS, if_neg]
    rw [h2 j hj]
    exact fun he => e (keys_inj hk hj hi he)
  ·simp only at hz
   rcases List.mem_append.1 hz with hz | hz
   ·exact h4 z hz
   ·simp at hz; subst hz; exact ha
 ·exact h
theorem LgI.rpts {l : List Alm} {to : Int} (hk : AscG Alm.k l) (up : List (List Int)) {at_ : Int} (ha : 0 ≤ at_ ∧ at_ ≤ to) : ∀ (n j : Nat) (s : Sit), n + j ≤ l.length → LgI l to s → LgI l to (rptE up at_ n j s)
 | 0, j, s, _, h => h
 | n + 1, j, s, hn, h => by
  rw [rptE_succ]
  exact LgI.rpts hk up ha n (j + 1) _ (by omega) (h.rpt hk up ha (by omega))
theorem LgI.run {l : List Alm} {to : Int} (hk : AscG Alm.k l) (a : List Opr) : ∀ (ev : List Ev) (s : Sit), (∀ e ∈ ev, 0 ≤ e.a) → LgI l to s → LgI l to (runE l a to ev s)
 | [], s, _, h => h
 | e :: r, s, he, h => by
  rw [runE]
  split
  ·exact h
  ·have h0 := he e (by simp)
   refine LgI.run hk a r _ (fun x hx => he x (by simp [hx])) ?_
   split
   ·exact h.app a e
   ·exact LgI.rpts hk _ ⟨h0, by omega⟩ _ 0 _ (by omega) (h.app a e)
theorem getD_map_def {α β : Type} [Inhabited α] [Inhabited β] (f : α → β) (l : List α) (i : Nat) (h : i < l.length) : (l.map f).getD i default = f (l.getD i default) := getD_map_in f l i default h
theorem AllOk.lg {l : List Alm} {s : List Ser} {a : List Opr} (h : AllOk l s a) (to : Int) : LgI l to (runA l s a to) := by
 refine LgI.run h.al.up a _ _ (fun e he => evs0_nn h.se h.ac e (ssort_mem.1 he)) ⟨by simp [sit0], fun i hi => ?_, fun i hi => ?_, fun z hz => by simp [sit0] at hz⟩
 ·simp only [sit0]; rw [getD_map_def _ _ _ hi]
 ·simp only [sit0]; rw [getD_map_def _ _ _ hi]; rfl
end Go.Proofs.YtcagelfmngmocaaGreatDoor
namespace Go.Proofs.YtcagelfmngmocaaGreatDoor
open Go Go.Ai
set_option linter.unusedSimpArgs false
set_option linter.unusedVariables false
set_option maxHeartbeats 4000000
section
variable {P : Program} {s : AS} {k : List KI} {kp : Option Keep} {l : List GI} {Q : AX → AS → Prop}
theorem callx_det {f : FuncId} {key : Nat} {cs0 cs : List Cel} {vargs : List Val} {d : Option Nat} {r : Val} (hf : FC P f (some cs0) vargs (fun cs' x => cs' = cs ∧ x = r)) (hr : dataRV r = true) (hc : cs.all dataRC = true)
  (h : rg P l kp k Q ({ s with bx := upd s.bx key (some cs) }.put d r)) : CALLX P f key cs0 vargs d l kp k Q s :=
 ⟨_, hf, ⟨cs, r, rfl, rfl⟩, fun _ _ hx => by obtain ⟨rfl, rfl⟩ := hx; exact ⟨hr, hc, h⟩⟩
end
theorem actGo_len (kd lim db on off un : Int) : ∀ (l : List Smp) (s : ActX), (actGo kd lim db on off un l s).out.length ≤ s.out.length + l.length := by
 have h1 : ∀ (nx a : Int) (x y : Bool) (s : ActX), (actOn on off un nx a x y s).out.length ≤ s.out.length + 1 := fun nx a x y s => by
  unfold actOn
  simp only []
  (repeat' split) <;> (first | omega | (simp only [setTo_len, List.length_append, List.length_singleton]; omega))
 intro l
 induction l with
 | nil => intro s; exact Nat.le_refl _
 | cons x r ih =>
  intro s
  cases r with
  | nil => rw [actGo]; exact h1 _ _ _ _ _
  | cons y r =>
   rw [actGo]
   have h2 := h1 y.a x.a (hldSp kd lim db x).1 (hldSp kd lim db x).2 s
   have h3 := ih (actOn on off un y.a x.a (hldSp kd lim db x).1 (hldSp kd lim db x).2 s)
   simp only [List.length_cons] at h3 ⊢
   omega
theorem winsA_len {s : List Ser} {m : Nat} (h : ∀ x ∈ s, x.l.length ≤ m) (x : Alm) : (winsA s x).length ≤ m := by
 unfold winsA actW
 refine Nat.le_trans (actGo_len _ _ _ _ _ _ _ _) ?_
 unfold samO
 split
 ·rename_i h0
  have hr := idxG_rng (fun y : Ser => decide (y.t = x.t)) s 0
  have := h _ (getD_mem s (idxG (fun y : Ser => decide (y.t = x.t)) 0 s).toNat (by omega))
  simp only [List.length_nil]; omega
 ·simp
theorem evAs_len {s : List Ser} {m : Nat} (h : ∀ x ∈ s, x.l.length ≤ m) : ∀ (l : List Alm) (j : Int), (evAs s j l).length ≤ 2 * m * l.length
 | [], j => by simp [evAs]
 | x :: l, j => by
  have h1 := evAs_len h l (j + 1)
  have h2 := winsA_len h x
  rw [evAs, List.length_append, show evA s j x = (winsA s x).flatMap (evV j) from rfl, evV_len, List.length_cons]
  have h3 : 2 * m * (l.length + 1) = 2 * m * l.length + 2 * m := by rw [Nat.mul_add, Nat.mul_one]
  omega
theorem evBs_len (q : List Alm) : ∀ (l : List Opr) (j : Int), (evBs q j l).length ≤ 2 * l.length
 | [], j => by simp [evBs]
 | x :: l, j => by
  have h1 := evBs_len q l (j + 1)
  rw [evBs, List.length_append, List.length_cons]
  have : (evB q j x).length ≤ 2 := by unfold evB; split <;> simp
  omega
theorem allOk_of {l : List Alm} {s : List Ser} {a : List Opr} (h1 : afF l = 0) (h2 : asF s = 0) (h3 : ofF a = 0) (s1 : ∀ x ∈ l, x.sm) (s2 : ∀ x ∈ s, x.sm 10) (s3 : ∀ x ∈ a, x.sm) : AllOk l s a := by
 have a1 := almOk_of h1
 have a3 := actOk_of h3
 refine ⟨a1, serOk_of h2, a3, s1, fun x hx => ⟨(s2 x hx).1, by have := (s2 x hx).2; omega⟩, s3, ?_⟩
 have h5 := evAs_len (m := 10) (fun x hx => by have := (s2 x hx).2; omega) l 0
 have h6 := evBs_len l a 0
 have := a1.len
 have := a3.len
 unfold evs0
 rw [List.length_append]; omega
theorem AllOk.td {l : List Alm} {s : List Ser} {a : List Opr} (h : AllOk l s a) (to : Int) {z : Std} (hz : z ∈ (runA l s a to).td) : ∃ i : Nat, i < l.length ∧ z = (runA l s a to).td.getD i default ∧ z.al = (l.getD i default).k ∧ idxA l z.al = i := by
 have hg := h.lg to
 obtain ⟨i, hi, rfl⟩ := at_mem hz
 rw [hg.n] at hi
 exact ⟨i, hi, rfl, hg.k i hi, by rw [hg.k i hi]; exact idxA_self h.al.up hi⟩
theorem rptE_out (up : List (List Int)) (at_ : Int) : ∀ (n i : Nat) (s : Sit), (rptE up at_ n i s).out.length ≤ s.out.length + n
 | 0, i, s => Nat.le_refl _
 | n + 1, i, s => by
  have h1 := rptE_out up at_ n (i + 1) (rptX up at_ i s)
  have h2 : (rptX up at_ i s).out.length ≤ s.out.length + 1 := by
   unfold rptX
   split
   ·simp
   ·omega
  rw [rptE_succ]; omega
theorem runE_out (l : List Alm) (a : List Opr) (to : Int) : ∀ (ev : List Ev) (s : Sit), (runE l a to ev s).out.length ≤ s.out.length + l.length * ev.length
 | [], s => by simp [runE]
 | e :: r, s => by
  rw [runE, List.length_cons, Nat.mul_add, Nat.mul_one]
  split
  ·omega
  ·refine Nat.le_trans (runE_out l a to r _) ?_
   split
   ·rw [appE_out]; omega
   ·have := rptE_out (upA l) e.a l.length 0 (appE l a e s)
    rw [appE_out] at this; omega
theorem AllOk.out {l : List Alm} {s : List Ser} {a : List Opr} (h : AllOk l s a) (to : Int) : (runA l s a to).out.length ≤ 100000000 := by
 have h1 := runE_out l a to (evs l s a) (sit0 l)
 have h2 := h.al.len
 have h3 := h.ev
 rw [evs_len] at h1
 have h4 : l.length * (evs0 l s a).length ≤ 200 * 500000 := Nat.mul_le_mul h2 h3
 unfold runA
 simp only [sit0, List.length_nil] at h1 ⊢
 omega
end Go.Proofs.YtcagelfmngmocaaGreatDoor

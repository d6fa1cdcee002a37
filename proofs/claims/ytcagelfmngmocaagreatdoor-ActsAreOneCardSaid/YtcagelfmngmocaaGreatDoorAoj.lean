
/-
 The acts that are ignored, and the run without them. Plain laws.
-/
import Derived.Test.YtcagelfmngmocaaGreatDoorAoi
namespace Go.Proofs.YtcagelfmngmocaaGreatDoor
open Go Go.Ai
set_option linter.unusedSimpArgs false
set_option linter.unusedVariables false
set_option maxHeartbeats 4000000
theorem nxE_ig (l : List Alm) (a : List Opr) (e : Ev) (r : List Ev) (s : Sit) : (nxE l a e r s).ig = (appE l a e s).ig := by
 unfold nxE
 split
 ·rfl
 ·rw [(rptE_st _ _ _ _ _).2]
theorem appE_ig (l : List Alm) (a : List Opr) (e : Ev) (s : Sit) : (appE l a e s).ig = s.ig ∨ ((appE l a e s).ig = s.ig ++ [e.ac] ∧ e.k = 2 ∧ (e.al < 0 ∨ (a.getD e.ac.toNat default).kd ≠ 2)) := by
 unfold appE
 split
 ·rename_i h1
  split
  ·rename_i h2; exact .inr ⟨rfl, h1, .inl h2⟩
  ·simp only
   split
   ·exact .inl rfl
   ·rename_i h3
    refine .inr ⟨rfl, h1, .inr fun h4 => h3 ?_⟩
    unfold actX; rw [if_pos h4]
 ·exact .inl rfl
theorem runE_ig (l : List Alm) (a : List Opr) (to : Int) : ∀ (ev : List Ev) (s : Sit), (∀ x ∈ s.ig, x ∈ (runE l a to ev s).ig) ∧ (∀ x ∈ (runE l a to ev s).ig, x ∈ s.ig ∨ ∃ e ∈ ev, e.k = 2 ∧ e.ac = x ∧ (e.al < 0 ∨ (a.getD e.ac.toNat default).kd ≠ 2))
 | [], s => ⟨fun x h => h, fun x h => .inl h⟩
 | e :: r, s => by
  by_cases hc : to < e.a
  ·rw [runE, if_pos hc]; exact ⟨fun x h => h, fun x h => .inl h⟩
  ·rw [runE_nx hc]
   obtain ⟨h1, h2⟩ := runE_ig l a to r (nxE l a e r s)
   rw [nxE_ig] at h1 h2
   refine ⟨fun x hx => h1 x ?_, fun x hx => ?_⟩
   ·rcases appE_ig l a e s with h | ⟨h, _⟩ <;> rw [h] <;> simp [hx]
   ·rcases h2 x hx with h | ⟨e2, he, h⟩
    ·rcases appE_ig l a e s with g | ⟨g, g2⟩
     ·rw [g] at h; exact .inl h
     ·rw [g] at h
      rcases List.mem_append.1 h with h | h
      ·exact .inl h
      ·simp at h; exact .inr ⟨e, by simp, g2.1, h.symm, g2.2⟩
    ·exact .inr ⟨e2, by simp [he], h⟩
def qB (B : List Int) (e : Ev) : Bool := !(decide (e.k = 2) && decide (e.ac ∈ B))
def apt (x y : Ev) : Prop := x.k = 2 → y.k = 2 → x.ac ≠ y.ac
theorem keepOk_of {l : List Alm} {a : List Opr} {to : Int} (ha : ∀ y ∈ a, y.kd = 2 → 0 ≤ y.un) (B : List Int) : ∀ (ev : List Ev) (s : Sit), ev.Pairwise apt → (∀ e ∈ ev, e.k = 2 → e.ac ∉ s.ig) → UnOk s.st → B = (runE l a to ev s).ig → KeepOk l a to (qB B) ev s
 | [], s, _, _, _, _ => trivial
 | e :: r, s, hp, hn, hu, hB => by
  by_cases hc : to < e.a
  ·exact .inl hc
  ·obtain ⟨hp1, hp2⟩ := List.pairwise_cons.1 hp
   rw [runE_nx hc] at hB
   have h1 := runE_ig l a to r (nxE l a e r s)
   rw [← hB, nxE_ig] at h1
   have hin : ∀ x ∈ (appE l a e s).ig, x ∈ s.ig ∨ (x = e.ac ∧ e.k = 2) := fun x hx => by
    rcases appE_ig l a e s with g | ⟨g, g2⟩
    ·rw [g] at hx; exact .inl hx
    ·rw [g] at hx
     rcases List.mem_append.1 hx with hx | hx
     ·exact .inl hx
     ·simp at hx; exact .inr ⟨hx, g2.1⟩
   refine .inr ⟨?_, keepOk_of ha B r _ hp2 (fun e2 he2 hk2 hx => ?_) (nxE_un hu ha) hB⟩
   ·unfold qB
    congr 1
    by_cases hi : ignE a e s = true
    ·rw [hi]
     have hk : e.k = 2 := by unfold ignE at hi; simp at hi; exact hi.1
     have hm := h1.1 e.ac (by rw [ign_same hu hi]; simp)
     rw [decide_eq_true hk, decide_eq_true hm]; rfl
    ·have hi' : ignE a e s = false := by simpa using hi
     rw [hi']
     by_cases hk : e.k = 2
     ·rw [decide_eq_true hk, decide_eq_false]; rfl
      intro hm
      rcases h1.2 e.ac hm with h | ⟨e2, he2, h2, h3, _⟩
      ·rw [ign_not hi'] at h; exact hn e (by simp) hk h
      ·exact hp1 e2 he2 hk h2 h3.symm
     ·rw [decide_eq_false hk]; rfl
   ·rw [nxE_ig] at hx
    rcases hin _ hx with hx | ⟨hx, hk⟩
    ·exact hn e2 (by simp [he2]) hk2 hx
    ·exact hp1 e2 he2 hk hk2 hx.symm
/-! ### numbers -/
structure Rel (a b : List Opr) (h : Ev → Ev) (e : Ev) : Prop where
 a_ : (h e).a = e.a
 k : (h e).k = e.k
 al : (h e).al = e.al
 on : (h e).on = e.on
 o : e.k = 2 → a.getD (h e).ac.toNat default = b.getD e.ac.toNat default
theorem appE_rel {l : List Alm} {a b : List Opr} {h : Ev → Ev} {e : Ev} (r : Rel a b h e) {s t : Sit} (hs : Sm s t) (hg : s.ig.length = t.ig.length) : Sm (appE l b e s) (appE l a (h e) t) ∧ (appE l b e s).ig.length = (appE l a (h e) t).ig.length := by
 obtain ⟨h1, h2, h3⟩ := hs
 unfold appE
 rw [r.k, r.al]
 split
 ·rename_i hk
  split
  ·exact ⟨⟨h1, h2, h3⟩, by simp [hg]⟩
  ·rw [r.o hk, h1]
   refine ⟨⟨rfl, h2, h3⟩, ?_⟩
   simp only
   split
   ·exact hg
   ·simp [hg]
 ·have ht : ∀ lt x, turnX lt x (h e) = turnX lt x e := fun lt x => by unfold turnX; rw [r.k, r.a_, r.on]
  rw [ht, h1]
  exact ⟨⟨rfl, h2, h3⟩, hg⟩
theorem runE_rel {l : List Alm} {a b : List Opr} {h : Ev → Ev} (to : Int) : ∀ (ev : List Ev) (s t : Sit), (∀ e ∈ ev, Rel a b h e) → Sm s t → s.ig.length = t.ig.length → Sm (runE l b to ev s) (runE l a to (ev.map h) t) ∧ (runE l b to ev s).ig.length = (runE l a to (ev.map h) t).ig.length
 | [], s, t, _, hs, hg => ⟨hs, hg⟩
 | e :: r, s, t, hr, hs, hg => by
  have he := hr e (by simp)
  by_cases hc : to < e.a
  ·rw [List.map_cons, runE, if_pos hc, runE, if_pos (by rw [he.a_]; exact hc)]; exact ⟨hs, hg⟩
  ·rw [List.map_cons, runE_nx hc, runE_nx (by rw [he.a_]; exact hc)]
   obtain ⟨g1, g2⟩ := appE_rel (l := l) he hs hg
   have hh : hdAt (r.map h) (h e).a = hdAt r e.a := by
    cases r with
    | nil => rfl
    | cons e2 r2 => show decide ((h e2).a = (h e).a) = decide (e2.a = e.a); rw [he.a_, (hr e2 (by simp)).a_]
   refine runE_rel to r _ _ (fun x hx => hr x (by simp [hx])) ?_ ?_
   ·unfold nxE
    rw [hh, he.a_]
    split
    ·exact g1
    ·exact rptE_sm _ _ g1
   ·rw [nxE_ig, nxE_ig]; exact g2
/-! ### the acts that are left -/
theorem flatMap_cg {α β : Type} {f g : α → List β} : ∀ (l : List α), (∀ x ∈ l, f x = g x) → l.flatMap f = l.flatMap g
 | [], _ => rfl
 | x :: l, h => by rw [List.flatMap_cons, List.flatMap_cons, h x (by simp), flatMap_cg l fun y hy => h y (by simp [hy])]
def kpt (B : List Int) (n : Nat) : List Nat := (List.range n).filter fun i => decide ((i : Int) ∉ B)
def gdA (B : List Int) (a : List Opr) : List Opr := (kpt B a.length).map fun i => a.getD i default
theorem evBs_flat (l : List Alm) : ∀ (a : List Opr) (j : Int), evBs l j a = (List.range a.length).flatMap fun (i : Nat) => evB l (j + i) (a.getD i default)
 | [], j => rfl
 | x :: a, j => by
  rw [evBs, evBs_flat l a (j + 1), List.length_cons, List.range_succ_eq_map, List.flatMap_cons, List.flatMap_map]
  congr 1
  ·simp
  ·refine flatMap_cg _ fun i hi => ?_
   rw [show j + 1 + (i : Int) = j + ((i + 1 : Nat) : Int) by omega]; rfl
def relH (B : List Int) (n : Nat) (e : Ev) : Ev := if e.k = 2 then { e with ac := ((kpt B n).getD e.ac.toNat default : Nat) } else e
theorem range_map_getD {α β : Type} [Inhabited α] (l : List α) (f : α → List β) : (List.range l.length).flatMap (fun i => f (l.getD i default)) = l.flatMap f := by
 induction l with
 | nil => rfl
 | cons x l ih => rw [List.length_cons, List.range_succ_eq_map, List.flatMap_cons, List.flatMap_map, List.flatMap_cons, ← ih]; rfl
theorem filter_flatMap_eq {α β : Type} (q : β → Bool) (f : α → List β) : ∀ l : List α, (l.flatMap f).filter q = l.flatMap fun x => (f x).filter q
 | [] => rfl
 | x :: l => by rw [List.flatMap_cons, List.filter_append, filter_flatMap_eq q f l, List.flatMap_cons]
theorem map_flatMap_eq {α β γ : Type} (q : β → γ) (f : α → List β) : ∀ l : List α, (l.flatMap f).map q = l.flatMap fun x => (f x).map q
 | [] => rfl
 | x :: l => by rw [List.flatMap_cons, List.map_append, map_flatMap_eq q f l, List.flatMap_cons]
theorem flatMap_if {α β : Type} (p : α → Bool) (f : α → List β) : ∀ l : List α, (l.flatMap fun x => if p x = true then f x else []) = (l.filter p).flatMap f
 | [] => rfl
 | x :: l => by
  rw [List.flatMap_cons, flatMap_if p f l, List.filter_cons]
  split
  ·rw [List.flatMap_cons]
  ·rfl
theorem evs_good {l : List Alm} {s : List Ser} {a : List Opr} (B : List Int) (hB : ∀ i : Nat, i < a.length → (i : Int) ∈ B → idxA l (a.getD i default).al < 0 ∨ (a.getD i default).kd ≠ 2) :
  (evs0 l s (gdA B a)).map (relH B a.length) = (evs0 l s a).filter (qB B) := by
 have h1 : ∀ e ∈ evAs s 0 l, e.k = 0 := fun e he => by
  obtain ⟨i, hi, he⟩ := mem_evAs he
  unfold evA at he
  obtain ⟨v, _, hm⟩ := List.mem_flatMap.1 he
  simp only [List.mem_cons, List.not_mem_nil, or_false] at hm
  rcases hm with rfl | rfl <;> rfl
 unfold evs0
 rw [List.map_append, List.filter_append]
 congr 1
 ·rw [List.filter_eq_self.2 fun e he => by unfold qB; rw [h1 e he]; rfl]
  exact (List.map_congr_left fun e he => by unfold relH; rw [if_neg (by rw [h1 e he]; omega)]; rfl).trans (List.map_id _)
 ·rw [evBs_flat, evBs_flat, filter_flatMap_eq, map_flatMap_eq]
  have h2 : (gdA B a).length = (kpt B a.length).length := by simp [gdA]
  have h3 : (List.range (gdA B a).length).flatMap (fun (i : Nat) => (evB l (0 + (i : Int)) ((gdA B a).getD i default)).map (relH B a.length)) = (List.range (kpt B a.length).length).flatMap fun i => (fun k : Nat => evB l k (a.getD k default)) ((kpt B a.length).getD i default) := by
   rw [h2]
   refine flatMap_cg _ fun i hi => ?_
   have hi := List.mem_range.1 hi
   have e1 : (gdA B a).getD i default = a.getD ((kpt B a.length).getD i default) default := by unfold gdA; rw [getD_map_in _ _ _ _ hi]
   have e2 : ((0 : Int) + i).toNat = i := by omega
   rw [e1]
   show (evB l (0 + (i : Int)) (a.getD ((kpt B a.length).getD i default) default)).map (relH B a.length) = evB l ((kpt B a.length).getD i default : Nat) (a.getD ((kpt B a.length).getD i default) default)
   generalize a.getD ((kpt B a.length).getD i default) default = x
   unfold evB
   by_cases hc : x.kd = 2 ∧ 0 ≤ idxA l x.al
   ·rw [if_pos hc]; simp [relH, e2]
   ·rw [if_neg hc]; simp [relH, e2]
  rw [h3]
  refine (range_map_getD (kpt B a.length) fun k : Nat => evB l (k : Int) (a.getD k default)).trans ?_
  rw [show kpt B a.length = (List.range a.length).filter fun (i : Nat) => decide ((i : Int) ∉ B) from rfl, ← flatMap_if]
  refine flatMap_cg _ fun i hi => ?_
  have hi := List.mem_range.1 hi
  rw [Int.zero_add]
  by_cases hb : (i : Int) ∈ B
  ·rw [if_neg (by simp [hb])]
   unfold evB
   rw [if_neg (by rcases hB i hi hb with h | h <;> omega), List.filter_cons, if_neg (by simp [qB, hb])]; rfl
  ·rw [if_pos (by simp [hb])]
   refine (List.filter_eq_self.2 fun e he => ?_).symm
   unfold evB at he
   rcases List.mem_cons.1 he with rfl | he
   ·simp [qB, hb]
   ·split at he
    ·simp only [List.mem_cons, List.not_mem_nil, or_false] at he
     subst he; rfl
    ·simp at he
theorem rel_evs0 {l : List Alm} {s : List Ser} {a : List Opr} (B : List Int) {e : Ev} (he : e ∈ evs0 l s (gdA B a)) : Rel a (gdA B a) (relH B a.length) e where
 a_ := by unfold relH; split <;> rfl
 k := by unfold relH; split <;> rfl
 al := by unfold relH; split <;> rfl
 on := by unfold relH; split <;> rfl
 o hk := by
  unfold evs0 at he
  rcases List.mem_append.1 he with he | he
  ·obtain ⟨i, hi, he⟩ := mem_evAs he
   unfold evA at he
   obtain ⟨v, _, hm⟩ := List.mem_flatMap.1 he
   simp only [List.mem_cons, List.not_mem_nil, or_false] at hm
   rcases hm with rfl | rfl <;> simp at hk
  ·obtain ⟨j, hj, he⟩ := mem_evBs he
   unfold evB at he
   rcases List.mem_cons.1 he with rfl | he
   ·have hj2 : j < (kpt B a.length).length := by simpa [gdA] using hj
    unfold relH
    rw [if_pos rfl]
    simp only
    rw [show ((0 : Int) + (j : Nat)).toNat = j by omega, Int.toNat_natCast]
    unfold gdA
    rw [getD_map_in _ _ _ _ hj2]
   ·split at he
    ·simp only [List.mem_cons, List.not_mem_nil, or_false] at he
     subst he; simp at hk
    ·simp at he
theorem apt_symm {x y : Ev} (h : apt x y) : apt y x := fun h1 h2 e => h h2 h1 e.symm
theorem evBs_apt (l : List Alm) (a : List Opr) : (evBs l 0 a).Pairwise apt := by
 have h1 : ∀ (x : Opr) (j : Int) (e : Ev), e ∈ evB l j x → e.k = 2 → e.ac = j := fun x j e he hk => by
  unfold evB at he
  rcases List.mem_cons.1 he with rfl | he
  ·rfl
  ·split at he
   ·simp only [List.mem_cons, List.not_mem_nil, or_false] at he
    subst he; simp at hk
   ·simp at he
 have h2 : ∀ (a : List Opr) (j : Int), (evBs l j a).Pairwise apt ∧ ∀ e ∈ evBs l j a, e.k = 2 → j ≤ e.ac := fun a => by
  induction a with
  | nil => exact fun j => ⟨.nil, fun e he => by simp [evBs] at he⟩
  | cons x a ih =>
   intro j
   obtain ⟨g1, g2⟩ := ih (j + 1)
   rw [evBs]
   refine ⟨List.pairwise_append.2 ⟨?_, g1, fun y hy z hz k1 k2 => ?_⟩, fun e he hk => ?_⟩
   ·unfold evB
    split
    ·refine List.pairwise_cons.2 ⟨fun z hz _ k2 => ?_, List.pairwise_singleton _ _⟩
     simp only [List.mem_cons, List.not_mem_nil, or_false] at hz
     subst hz; simp at k2
    ·exact List.pairwise_singleton _ _
   ·have := h1 x j y hy k1
    have := g2 z hz k2
    omega
   ·rcases List.mem_append.1 he with he | he
    ·have := h1 x j e he hk; omega
    ·have := g2 e he hk; omega
 exact (h2 a 0).1
theorem evs_apt (l : List Alm) (s : List Ser) (a : List Opr) : (evs l s a).Pairwise apt := by
 refine ((ssort_perm (c := cmpE a) (evs0 l s a)).pairwise_iff apt_symm).2 ?_
 unfold evs0
 refine List.pairwise_append.2 ⟨List.pairwise_of_forall_mem_list fun x hx y _ k1 => ?_, evBs_apt l a, fun x hx y _ k1 => ?_⟩ <;>
 ·obtain ⟨i, hi, he⟩ := mem_evAs hx
  unfold evA at he
  obtain ⟨v, _, hm⟩ := List.mem_flatMap.1 he
  simp only [List.mem_cons, List.not_mem_nil, or_false] at hm
  rcases hm with rfl | rfl <;> simp at k1
theorem sit0_sync {l : List Alm} : Sync (upA l) l.length (sit0 l) := fun i hi => by
 have h1 : ∀ j, ((sit0 l).st.getD j default).ac = false := fun j => by
  unfold sit0
  by_cases hj : j < l.length
  ·simp only; rw [getD_map_in _ _ _ _ hj]; rfl
  ·simp only; rw [getD_out _ _ (by simp; omega)]; rfl
 unfold repX
 rw [if_neg (by rw [List.any_eq_true]; rintro ⟨k, _, hk⟩; rw [h1] at hk; cases hk)]
 have h2 : (sit0 l).st.getD i default = sta0 := by unfold sit0; simp only; rw [getD_map_in _ _ _ _ hi]
 have h3 : (sit0 l).td.getD i default = ⟨(l.getD i default).k, 1, 0⟩ := by unfold sit0; simp only; rw [getD_map_in _ _ _ _ hi]
 rw [h2, h3]; rfl
/-- The run without the acts that are ignored. -/
theorem good_run {l : List Alm} {s : List Ser} {a : List Opr} (hs : SerOk s) (ha : ActOk a) (T to : Int) (hto : to ≤ T) (B : List Int) (hB : ∀ x, x ∈ B ↔ x ∈ (runA l s a T).ig) :
  Sm (runA l s (gdA B a) to) (runA l s a to) ∧ (runA l s (gdA B a) to).ig = [] := by
 have hun : ∀ y ∈ a, y.kd = 2 → 0 ≤ y.un := fun y hy hk => by
  obtain ⟨i, hi, rfl⟩ := at_mem hy
  have := opF_ok (ha.flt i hi)
  have := this.2.2.2.2.2.1 hk
  omega
 have hu0 : UnOk (sit0 l).st := fun i => by
  unfold sit0
  by_cases hj : i < l.length
  ·simp only; rw [getD_map_in _ _ _ _ hj]; exact Int.le_refl 0
  ·simp only; rw [getD_out _ _ (by simp; omega)]; exact Int.le_refl 0
 have hq : qB B = qB (runA l s a T).ig := by
  funext e; unfold qB; rw [show decide (e.ac ∈ B) = decide (e.ac ∈ (runA l s a T).ig) from decide_eq_decide.2 (hB _)]
 have hko := keepOk_of (l := l) hun (runA l s a T).ig (evs l s a) (sit0 l) (to := T) (evs_apt l s a) (fun e _ _ h => by simp [sit0] at h) hu0 rfl
 have hord : (evs l s a).Pairwise fun x y => x.a ≤ y.a := (ssort_ord (evSwo a) (fun _ _ => trivial)).imp fun {x y} h => Int.not_lt.1 fun hc => h ((cmpE_lt a y x).2 (.inl hc))
 have h1 := run_keep hto hun (evs l s a) (sit0 l) (sit0 l) hord hko hu0 (by simp [sit0]) rfl (by
  cases hev : evs l s a with
  | nil => exact Sm.rfl _
  | cons e r => exact .inl ⟨Sm.rfl _, .inr sit0_sync⟩)
 rw [← hq] at h1
 have hBk : ∀ i : Nat, i < a.length → (i : Int) ∈ B → idxA l (a.getD i default).al < 0 ∨ (a.getD i default).kd ≠ 2 := fun i hi hb => by
  rcases (runE_ig l a T (evs l s a) (sit0 l)).2 _ ((hB _).1 hb) with h | ⟨e, he, h2, h3, h4⟩
  ·simp [sit0] at h
  ·have he := ssort_mem.1 he
   unfold evs0 at he
   rcases List.mem_append.1 he with he | he
   ·obtain ⟨i, hi, he⟩ := mem_evAs he
    unfold evA at he
    obtain ⟨v, _, hm⟩ := List.mem_flatMap.1 he
    simp only [List.mem_cons, List.not_mem_nil, or_false] at hm
    rcases hm with rfl | rfl <;> simp at h2
   ·obtain ⟨j, hj, he⟩ := mem_evBs he
    unfold evB at he
    rcases List.mem_cons.1 he with rfl | he
    ·simp only at h3 h4
     have : j = i := by omega
     subst this
     rw [show ((0 : Int) + (j : Nat)).toNat = j by omega] at h4
     exact h4
    ·split at he
     ·simp only [List.mem_cons, List.not_mem_nil, or_false] at he
      subst he; simp at h2
     ·simp at he
 have h2 : (evs l s (gdA B a)).map (relH B a.length) = (evs l s a).filter (qB B) := by
  unfold evs
  rw [ssort_filter (evSwo a) _ (fun _ _ => trivial), ← evs_good B hBk]
  refine ssort_map _ fun x hx y hy => ?_
  have hrl : ∀ e ∈ evs0 l s (gdA B a), Rel a (gdA B a) (relH B a.length) e := fun e he => rel_evs0 B he
  have r1 := hrl x hx
  have r2 := hrl y hy
  unfold cmpE
  rw [r1.a_, r1.k, r1.al, r2.a_, r2.k, r2.al]
  split
  ·rfl
  ·rename_i hc
   have hy2 : y.k = 2 := Classical.byContradiction fun h => hc (.inr h)
   have hx2 : x.k = 2 := Classical.byContradiction fun h => hc (.inl (by
    rw [orSp2]
    split
    ·assumption
    ·rcases sd_cases x.k y.k with ⟨h1, h2⟩ | ⟨h1, h2⟩ | ⟨h1, h2⟩ <;> omega))
   rw [r1.o hx2, r2.o hy2]
 have h3 := runE_rel (l := l) (a := a) (b := gdA B a) (h := relH B a.length) to (evs l s (gdA B a)) (sit0 l) (sit0 l) (fun e he => rel_evs0 B (ssort_mem.1 he)) (Sm.rfl _) rfl
 rw [h2] at h3
 refine ⟨h3.1.trans h1.1, List.length_eq_zero_iff.1 ?_⟩
 have h4 := h3.2
 rw [h1.2] at h4
 exact h4
end Go.Proofs.YtcagelfmngmocaaGreatDoor

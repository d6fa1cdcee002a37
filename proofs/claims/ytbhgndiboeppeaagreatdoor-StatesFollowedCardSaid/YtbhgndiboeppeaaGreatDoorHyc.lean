/- Pieces of code: maps that are told by their values alone, and taken up again. -/
import Derived.Test.YtbhgndiboeppeaaGreatDoorHyb
set_option linter.all false
namespace Go.Ai
open Go
section
variable {P : Program} {N : Nat} {ok ok' ok'' : Nat → Prop} {tl tl' : List (Nat × Val)} {H H' : Hp} {a a' : Act} {w w' w'' : World} {E E' E'' : Env}
def a6H (k : Nat) (u : Value) : Cel → Cel
 | .mp j => if j = k then .g u else .mp j
 | .ow j ver => if j = k then .any else .ow j ver
 | .op j ver i off => if j = k then .any else .op j ver i off
 | .os j ver lo => if j = k then .any else .os j ver lo
 | .ws j ver lo hi => if j = k then .any else .ws j ver lo hi
 | .fn _ _ => .any
 | c => c
def d4F (k : Nat) (u : Value) : Val → Val
 | .one c => .one (a6H k u c)
 | .ag ds => .ag (ds.map (a6H k u))
 | _ => .any
theorem R3 {k : Nat} {u : Value} {base : Nat} (hk : ∀ (ver z : Nat) (u' : Value), E.rm k = some (ver, z, u') → u' = u) {c : Cel} {v : Value} (h : CRel0 w ok base E c v) : CRel0 w ok base (E.delR k) (a6H k u c) v := by
 have hone := h.oneC
 cases c with
 | mp j =>
  simp only [a6H]
  split
  ·rename_i e; subst e
   obtain ⟨_, ver', u', hr, rfl⟩ := h
   have := hk _ _ _ hr; subst this
   exact ⟨rfl, hone⟩
  ·rename_i e
   obtain ⟨a1, ver', u', hr, rest⟩ := h
   exact ⟨a1, ver', u', by simp [Env.delR, e, hr], rest⟩
 | ow j ver =>
  simp only [a6H]
  split
  ·exact hone
  ·rename_i e
   obtain ⟨a1, ver', z, u', hr, rest⟩ := h
   exact ⟨a1, ver', z, u', by simp [Env.delR, e, hr], rest⟩
 | op j ver i off =>
  simp only [a6H]
  split
  ·exact hone
  ·rename_i e
   obtain ⟨a1, ver', z, u', hr, rest⟩ := h
   exact ⟨a1, ver', z, u', by simp [Env.delR, e, hr], rest⟩
 | os j ver lo =>
  simp only [a6H]
  split
  ·exact hone
  ·rename_i e
   obtain ⟨a1, ver', z, u', hr, rest⟩ := h
   exact ⟨a1, ver', z, u', by simp [Env.delR, e, hr], rest⟩
 | ws j ver lo hi =>
  simp only [a6H]
  split
  ·exact hone
  ·rename_i e
   obtain ⟨a1, ver', z, u', hr, rest⟩ := h
   exact ⟨a1, ver', z, u', by simp [Env.delR, e, hr], rest⟩
 | fn f caps => exact h.elim
 | _ => exact h
theorem d1c {k : Nat} {u : Value} {base : Nat} (hk : ∀ (ver z : Nat) (u' : Value), E.rm k = some (ver, z, u') → u' = u) {c : Cel} {v : Value} (h : CRel w ok base E c v) : CRel w ok base (E.delR k) (a6H k u c) v := by
 cases c with
 | fn f caps => obtain ⟨us, h1, _⟩ := h; subst h1; show Value.oneCell' _ = true; rfl
 | g u => exact (R3 hk (c := .g u) h).toC
 | sl fr z es => exact (R3 hk (c := .sl fr z es) h).toC
 | ep cs => exact (R3 hk (c := .ep cs) h).toC
 | bx j off => exact (R3 hk (c := .bx j off) h).toC
 | ow j ver => exact (R3 hk (c := .ow j ver) h).toC
 | op j ver i off => exact (R3 hk (c := .op j ver i off) h).toC
 | os j ver lo => exact (R3 hk (c := .os j ver lo) h).toC
 | ws j ver lo hi => exact (R3 hk (c := .ws j ver lo hi) h).toC
 | mp j => exact (R3 hk (c := .mp j) h).toC
 | fm kc es => exact (R3 hk (c := .fm kc es) h).toC
 | any => exact (R3 hk (c := .any) h).toC
theorem c0f {k : Nat} {u : Value} {base : Nat} (hk : ∀ (ver z : Nat) (u' : Value), E.rm k = some (ver, z, u') → u' = u) {ds : List Cel} {us : List Value} (h : CsRel w ok base E ds us) : CsRel w ok base (E.delR k) (ds.map (a6H k u)) us := by
 refine ⟨by simpa using h.1, fun i c v h1 h2 => ?_⟩
 rw [List.getElem?_map] at h1
 cases hi : ds[i]? with
 | none => rw [hi] at h1; cases h1
 | some c0 => rw [hi] at h1; simp at h1; subst h1; exact d1c hk (h.2 i c0 v hi h2)
theorem Plc.forget (h : Plc P N ok tl H a w E) (k : Nat) {r : Row} (hr : f9 H.rs k = some r) (hz : r.z = 0) :
  ∃ b es clock, w.heap[b]? = some (.map es clock) ∧ es.size = r.es.length ∧ ¬ok b ∧ ¬(E.delR k).own b ∧ E.own b ∧
   Plc P N ok (tl.map fun p => (p.1, d4F k (.map (some b)) p.2)) ⟨H.bs.map (fun p => (p.1, p.2.map (a6H k (.map (some b))))), Go.Ai.delR k H.rs⟩ a w (E.delR k) ∧ Adv w ok E w ok (E.delR k) := by
 obtain ⟨r1, r2, u, vs, r3, r4, r5⟩ := h.h.rw k r hr
 rcases r4 with ⟨h0, _⟩ | ⟨_, b, es, clock, rfl, _, hb, hsz, _⟩
 ·omega
 have hown : E.own b := .inr ⟨k, _, _, _, r3, rfl⟩
 have hk : ∀ (ver z : Nat) (u' : Value), E.rm k = some (ver, z, u') → u' = .map (some b) := fun ver z u' h1 => by
  grind
 refine ⟨b, es, clock, hb, hsz, h.no b hown, fun ho => ?_, hown, ?_, ⟨Grew.refl _ _, fun b _ h => h, fun b hb => .inr ?_⟩, fun j g' _ h1 => h1, fun _ _ _ h1 => (Env.delR_rm h1).2⟩
 ·rcases ho with ⟨j, hj⟩ | ⟨j, ver, z, u', hj, hu⟩
  ·exact h.h.gr j b k _ _ _ hj r3 rfl
  ·obtain ⟨e1, e2⟩ := Env.delR_rm hj
   exact e1 (h.h.rr j ver z u' k _ _ _ b e2 r3 hu rfl)
 rotate_left
 ·rcases hb with hj | ⟨j, ver, z, u', hj, hu⟩
  ·exact .inl hj
  ·exact .inr ⟨j, ver, z, u', (Env.delR_rm hj).2, hu⟩
 refine ⟨⟨⟨fun j ds hj => ?_, fun j hj => ?_, fun j r0 hj => ?_, fun j hj => ?_, h.h.ginj, fun j g' k' ver z u h1 h2 => h.h.gr j g' k' ver z u h1 (Env.delR_rm h2).2, fun j ver z u j' ver' z' u' b h1 h2 h3 h4 => h.h.rr j ver z u j' ver' z' u' b (Env.delR_rm h1).2 (Env.delR_rm h2).2 h3 h4⟩, fun b hb ho => ?_, h.ty, h.tab⟩, h.size, h.nx, h.defers, fun t => ?_⟩
 ·rw [show f9 (H.bs.map fun p => (p.1, p.2.map (a6H k (.map (some b))))) j = _ from X8 (fun ds => ds.map (a6H k (.map (some b)))) H.bs j] at hj
  cases hx : f9 H.bs j with
  | none => rw [hx] at hj; cases hj
  | some ds0 =>
   rw [hx] at hj; simp at hj; subst hj
   obtain ⟨g', cur', ty', h1, h2, h3⟩ := h.h.bx j ds0 hx
   exact ⟨g', cur', ty', h1, h2, c0f hk h3⟩
 ·rw [show f9 (H.bs.map fun p => (p.1, p.2.map (a6H k (.map (some b))))) j = _ from X8 (fun ds => ds.map (a6H k (.map (some b)))) H.bs j] at hj
  exact h.h.bxn j (by simpa using hj)
 ·rw [show f9 (Go.Ai.delR k H.rs) j = _ from a1w k H.rs j] at hj
  split at hj
  ·cases hj
  ·rename_i e
   obtain ⟨h1, h2, u, vs', h3, h4, h5⟩ := h.h.rw j r0 hj
   exact ⟨h1, h2, u, vs', by simp [Env.delR, e, h3], h4, h5⟩
 ·rw [show f9 (Go.Ai.delR k H.rs) j = _ from a1w k H.rs j] at hj
  simp only [Env.delR]
  split at hj
  ·rename_i e; rw [if_pos e]
  ·rename_i e; rw [if_neg e]; exact h.h.rwn j hj
 ·rcases hb with hj | ⟨j, ver, z, u', hj, hu⟩
  ·exact h.no b (.inl hj) ho
  ·exact h.no b (.inr ⟨j, ver, z, u', (Env.delR_rm hj).2, hu⟩) ho
 ·rw [Z2 (d4F k (.map (some b))) rfl]
  have ht := h.tm t
  revert ht
  generalize m9 tl t = x
  generalize a.tmps.getD t undef = v
  intro ht
  cases ht with
  | one h1 => exact .one (d1c hk h1)
  | ag h1 => exact .ag (c0f hk h1)
  | tu => exact .any
  | any => exact .any
theorem Plc.other (h : Plc P N ok tl H a w E) (hs : w'.heap.size = w.heap.size) (hw : ∀ b, ok b ∨ E.own b → w'.heap[b]? = w.heap[b]?) (ha : a'.tmps.size = a.tmps.size) (hd : a'.defers = a.defers) (ht : ∀ p ∈ tl, a'.tmps.getD p.1 undef = a.tmps.getD p.1 undef) : Plc P N ok tl H a' w' E := by
 have hk : Keeps ok w w' := ⟨by omega, fun b _ ho => hw b (.inl ho)⟩
 refine ⟨⟨⟨fun k cs hk1 => ?_, h.h.bxn, fun k r0 hk1 => ?_, h.h.rwn, h.h.ginj, h.h.gr, h.h.rr⟩, h.no, fun k g h1 h2 => ?_, ?_⟩, by rw [ha]; exact h.size, h.nx, by rw [hd]; exact h.defers, fun t => ?_⟩
 ·obtain ⟨g, cur, ty, h1, h2, h3⟩ := h.h.bx k cs hk1
  exact ⟨g, cur, ty, h1, (hw g (.inr (.inl ⟨k, h1⟩))).trans h2, h3.move hk (fun _ _ h => h) (by omega) (.refl E)⟩
 ·obtain ⟨h1, h2, u, vs', h3, h4, h5⟩ := h.h.rw k r0 hk1
  exact ⟨h1, h2, u, vs', h3, h4.of_block (fun b hb => hw b (.inr (.inr ⟨k, _, _, _, h3, hb⟩))), h5.move hk (fun _ _ h => h) (by omega)⟩
 ·obtain ⟨cur, T, h3, h4⟩ := h.ty k g h1 h2
  exact ⟨cur, T, (hw g (.inr (.inl ⟨k, h2⟩))).trans h3, h4⟩
 ·obtain ⟨W, h1, h2, h3⟩ := h.tab
  exact ⟨W, h1, by omega, fun b hb => ⟨(h3 b hb).1, (hw b (.inl (h3 b hb).1)).trans (h3 b hb).2⟩⟩
 ·have h1 := h.tm t
  by_cases hx : t ∈ tl.map (·.1)
  ·obtain ⟨p, hp, rfl⟩ := List.mem_map.1 hx
   rw [ht p hp]
   exact h1.move hk (fun _ _ h => h) (by omega) (.refl E)
  ·have : m9 tl t = .any := by
    clear h1 ht h
    induction tl with
    | nil => rfl
    | cons q tl ih =>
     simp only [List.map_cons, List.mem_cons, not_or] at hx
     simp only [m9]; rw [if_neg hx.1]; exact ih hx.2
   rw [this]; exact .any
def Env.addR (E : Env) (k : Nat) (u : Value) : Env := ⟨E.gm, fun j => if j = k then some (0, 0, u) else E.rm j⟩
theorem Plc.adopt (h : Plc P N ok tl H a w E) (k : Nat) (hk : f9 H.rs k = none) {b clock kc : Nat} {es : Array MapEntry} {m : List (List Cel)} (hb : w.heap[b]? = some (.map es clock)) (hno : ¬ok b) (hown : ¬E.own b) (hlen : es.size = m.length) (hm : a9u m)
  (hr : RRel w ok w.heap.size m.flatten (es.toList.map fun e => [e.key, a0R e.val]).flatten) (hks : ∀ e ∈ es.toList, m5 kc e.key = true ∧ vOk kc e.val) : Plc P N ok tl ⟨H.bs, (k, ⟨0, kc, 0, m⟩) :: H.rs⟩ a w (E.addR k (.map (some b))) := by
 have hrn : E.rm k = none := h.h.rwn k hk
 have hle : EnvLe E (E.addR k (.map (some b))) := ⟨fun _ _ h => h, fun j ver z u hj => ⟨ver, u, by simp only [Env.addR]; rw [if_neg (fun e => by subst e; rw [hrn] at hj; cases hj)]; exact hj, Nat.le_refl _, fun _ => rfl⟩⟩
 have hrm : ∀ {j : Nat} {x : Nat × Nat × Value}, (E.addR k (.map (some b))).rm j = some x → (j = k ∧ x = (0, 0, .map (some b))) ∨ E.rm j = some x := fun {j x} hj => by
  simp only [Env.addR] at hj
  all_goals grind
 refine ⟨⟨⟨fun j cs hj => ?_, h.h.bxn, fun j r0 hj => ?_, fun j hj => ?_, h.h.ginj, fun j g k' ver z u h1 h2 => ?_, fun j ver z u j' ver' z' u' b' h1 h2 h3 h4 => ?_⟩, fun b' hb' ho => ?_, h.ty, h.tab⟩, h.size, h.nx, h.defers, fun t => (h.tm t).move (.refl _ w) (fun _ _ h => h) (Nat.le_refl _) hle⟩
 ·obtain ⟨g, cur, ty, h1, h2, h3⟩ := h.h.bx j cs hj
  exact ⟨g, cur, ty, h1, h2, h3.move (.refl _ w) (fun _ _ h => h) (Nat.le_refl _) hle⟩
 ·simp only [f9] at hj
  split at hj
  ·rename_i e; subst e
   injection hj with hj; subst hj
   exact ⟨fun _ => rfl, ⟨fun h0 => by simp at h0, fun _ => hm⟩, .map (some b), _, by simp [Env.addR], .inr ⟨rfl, b, es, clock, rfl, Nat.zero_le _, hb, hlen, rfl, hks⟩, hr⟩
  ·rename_i e
   obtain ⟨h1, h2, u, vs', h3, h4, h5⟩ := h.h.rw j r0 hj
   exact ⟨h1, h2, u, vs', by simp only [Env.addR]; rw [if_neg e]; exact h3, h4, h5⟩
 ·simp only [f9] at hj
  split at hj
  ·cases hj
  ·rename_i e
   simp only [Env.addR]; rw [if_neg e]; exact h.h.rwn j hj
 ·rcases hrm h2 with ⟨rfl, h3⟩ | h3
  ·simp only [Prod.mk.injEq] at h3
   obtain ⟨_, _, rfl⟩ := h3
   intro hu; simp only [x5, Option.some.injEq] at hu; subst hu
   exact hown (.inl ⟨j, h1⟩)
  ·exact h.h.gr j g k' ver z u h1 h3
 ·rcases hrm h1 with ⟨rfl, e1⟩ | e1 <;> rcases hrm h2 with ⟨rfl, e2⟩ | e2
  ·rfl
  ·simp only [Prod.mk.injEq] at e1
   obtain ⟨_, _, rfl⟩ := e1
   simp only [x5, Option.some.injEq] at h3; subst h3
   exact absurd (.inr ⟨j', _, _, _, e2, h4⟩) hown
  ·simp only [Prod.mk.injEq] at e2
   obtain ⟨_, _, rfl⟩ := e2
   simp only [x5, Option.some.injEq] at h4; subst h4
   exact absurd (.inr ⟨j, _, _, _, e1, h3⟩) hown
  ·exact h.h.rr j ver z u j' ver' z' u' b' e1 e2 h3 h4
 ·rcases hb' with hg | ⟨j, ver, z, u, h1, h2⟩
  ·exact h.no b' (.inl hg) ho
  ·rcases hrm h1 with ⟨rfl, e1⟩ | e1
   ·simp only [Prod.mk.injEq] at e1
    obtain ⟨_, _, rfl⟩ := e1
    simp only [x5, Option.some.injEq] at h2; subst h2
    exact hno ho
   ·exact h.no b' (.inr ⟨j, ver, z, u, e1, h2⟩) ho
theorem Plc.box1 {k : Nat} {cs cs2 : List Cel} {rs : List (Nat × Row)} (h : Plc P N ok tl ⟨[(k, cs)], rs⟩ a w E) (hr : ∀ cur, CsRel w ok w.heap.size E cs cur → CsRel w ok w.heap.size E cs2 cur) : Plc P N ok tl ⟨[(k, cs2)], rs⟩ a w E := by
 refine ⟨⟨⟨fun j ds hj => ?_, fun j hj => ?_, h.h.rw, h.h.rwn, h.h.ginj, h.h.gr, h.h.rr⟩, h.no, h.ty, h.tab⟩, h.size, h.nx, h.defers, h.tm⟩
 ·simp only [f9] at hj
  split at hj
  ·rename_i e; subst e
   injection hj with hj; subst hj
   obtain ⟨g, cur, ty, h1, h2, h3⟩ := h.h.bx j cs (by simp [f9])
   grind
  ·cases hj
 ·simp only [f9] at hj
  split at hj
  ·cases hj
  ·rename_i e; exact h.h.bxn j (by simp [f9, e])
theorem Plc.code1X (h : Plc P N ok tl H a w E) {c : Code} {l : List Ann} {ac : AC} (hc : b0 P N c l = some (ac, [])) (hr : ∀ p ∈ H.rs, XK ≤ p.1) (ts : List Nat) (m : CAnn) {tl' : List (Nat × Val)} {H' : Hp} (hQ : ex P ac [] (C9 ts m tl' H') (lAS tl H))
  {R : Exit → Act → World → Prop} (hR : ∀ a' w' ok' E', Plc P N ok' tl' H' a' w' E' → Adv w ok E w' ok' E' → (∀ b, ok' b → w.heap.size ≤ b ∨ ok b) → R .normal a' w') : c.wp P R a w := by
 have hT := h.tabs
 refine wp_mono (z8 c l [] ac hc _ _ _ _ _ (h.st hr) hQ) fun e a' w' hq => ?_
 cases e with
 | normal => obtain ⟨s', E', hs, rfl, rfl⟩ := hq; obtain ⟨h1, h2⟩ := h.of_st hs ts m; exact hR a' w' _ _ h1 h2 fun b hb => hb.2.2
 | ret => obtain ⟨s', E', hs, hq⟩ := hq; exact hq.elim
 | exit id => obtain ⟨s', E', hs, hq⟩ := hq; exact hq.elim
 | _ => exact hq.elim
theorem Plc.seqPX {c : Code} {R : Exit → Act → World → Prop} (h : Plc P N ok tl H a w E) (p : List Nat) (hs : d3X (q6 p c) = true) {l : List Ann} {ac : AC} (hc : b0 P N (q6 (p ++ [0]) c) l = some (ac, [])) (hr : ∀ p ∈ H.rs, XK ≤ p.1) (ts : List Nat) (m : CAnn) {tl' : List (Nat × Val)} {H' : Hp} (hQ : ex P ac [] (C9 ts m tl' H') (lAS tl H))
  (hR : ∀ a' w' ok' E', Plc P N ok' tl' H' a' w' E' → Adv w ok E w' ok' E' → (∀ b, ok' b → w.heap.size ≤ b ∨ ok b) → (q6 (p ++ [1]) c).wp P R a' w') : (q6 p c).wp P R a w :=
 a0T p hs (h.code1X hc hr ts m hQ hR)
end
end Go.Ai

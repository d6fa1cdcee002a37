/- Pieces of code. -/
import Derived.Test.YtnlafmigfjlnnaaGreatDoorAiE
set_option linter.all false
namespace Go.Ai
open Go
abbrev lAS (tl : List (Nat × Val)) (H : Hp) : AS := ⟨m7 tl, f7 H.bs, f7 H.rs⟩
def d3g (P : Program) (E : Env) : Ext := ⟨E.own, E.gm, fun k b => ∃ ver z u, E.rm k = some (ver, z, u) ∧ (u6 u) = some b, fun k u => ∃ z, E.rm k = some (0, z, u), fun t => S9 P t = true⟩
structure Wd (P : Program) (ok : Nat -> Prop) (H : Hp) (w : World) (E : Env) : Prop where
 h : HRel w ok w.heap.size E (f7 H.bs) (f7 H.rs)
 no : ∀ b, E.own b -> ¬ ok b
 ty : TyB (fun t => S9 P t = true) w E
 tab : c5D P w ok
structure Plc (P : Program) (N : Nat) (ok : Nat -> Prop) (tl : List (Nat × Val)) (H : Hp) (a : Act) (w : World) (E : Env) : Prop extends Wd P ok H w E where
 size : a.tmps.size = N
 nx : N <= 900000
 defers : a.defers = []
 tm : ∀ t, VRel w ok w.heap.size E (m7 tl t) (a.tmps.getD t undef)
structure Adv0 (w : World) (ok : Nat -> Prop) (E : Env) (w' : World) (ok' : Nat -> Prop) (E' : Env) : Prop where
 grew : Grew E.own w w'
 okm : ∀ b, b < w.heap.size -> ok b -> ok' b
 own : ∀ b, E'.own b -> w.heap.size <= b ∨ E.own b
structure Adv (w : World) (ok : Nat -> Prop) (E : Env) (w' : World) (ok' : Nat -> Prop) (E' : Env) : Prop extends Adv0 w ok E w' ok' E' where
 pin : ∀ k g, XK <= k -> E'.gm k = some g -> E.gm k = some g
 pinM : ∀ k u, XK <= k -> E'.rm k = some (0, 0, u) -> E.rm k = some (0, 0, u)
section
variable {P : Program} {N : Nat} {ok ok' ok'' : Nat -> Prop} {tl tl' : List (Nat × Val)} {H H' : Hp} {a a' : Act} {w w' w'' : World} {E E' E'' : Env}
theorem Adv0.keeps (h : Adv0 w ok E w' ok' E') (hno : ∀ b, E.own b -> ¬ ok b) : Keeps ok w w' := ⟨h.grew.size, fun b hb ho => h.grew.block b hb fun hx => hno b hx ho⟩
theorem Adv0.refl : Adv0 w ok E w ok E := ⟨Grew.refl _ _, fun _ _ h => h, fun _ h => .inr h⟩
theorem Adv.refl : Adv w ok E w ok E := ⟨Adv0.refl, fun _ _ _ h => h, fun _ _ _ h => h⟩
theorem Adv0.trans (h : Adv0 w ok E w' ok' E') (k : Adv0 w' ok' E' w'' ok'' E'') : Adv0 w ok E w'' ok'' E'' := by
 have hs := h.grew.size
 refine ⟨⟨k.grew.os.trans h.grew.os, k.grew.tape.trans h.grew.tape, k.grew.output.trans h.grew.output, Nat.le_trans hs k.grew.size, fun b hb hn => ?_⟩, fun b hb ho => k.okm b (by omega) (h.okm b hb ho), fun b ho => ?_⟩
 ·refine (k.grew.block b (by omega) fun hx => ?_).trans (h.grew.block b hb hn)
  rcases h.own b hx with h1 | h1
  ·omega
  ·exact hn h1
 ·rcases k.own b ho with h1 | h1
  ·exact .inl (by omega)
  ·exact h.own b h1
theorem Adv.trans (h : Adv w ok E w' ok' E') (k : Adv w' ok' E' w'' ok'' E'') : Adv w ok E w'' ok'' E'' :=
 ⟨h.toAdv0.trans k.toAdv0, fun j g hj hg => h.pin j g hj (k.pin j g hj hg), fun j u hj hu => h.pinM j u hj (k.pinM j u hj hu)⟩
theorem Adv0.ep (h : Adv0 w ok E w' ok' E') (hno : ∀ b, E.own b -> ¬ ok b) {cs : List Cel} {v : Value} {base base' : Nat} (hc : CRel0 w ok base Env.none (.ep cs) v) : CRel0 w' ok' base' Env.none (.ep cs) v := by
 have hk := h.keeps hno
 obtain ⟨b, off, us, h1, h2, h3, h4⟩ := hc
 exact ⟨b, off, us, h1, h.okm b h3 h2, Nat.lt_of_lt_of_le h3 hk.1, fun j x hx => ⟨(hk.cell h3 h2).trans (h4 j x hx).1, (h4 j x hx).2.keep hk h.okm⟩⟩
theorem Plc.okE (h : Plc P N ok tl H a w E) {b : Nat} (ho : ok b) : okE w ok E b := ⟨fun k hk => h.no b (.inl ⟨k, hk⟩) ho, fun k ver z u hk hu => h.no b (.inr ⟨k, ver, z, u, hk, hu⟩) ho, .inr ho⟩
theorem Plc.tabs (h : Plc P N ok tl H a w E) : b1K P w ok (d3g P E) := ⟨h.tab, h.no, rfl⟩
theorem Plc.rkey (h : Plc P N ok tl H a w E) (hr : ∀ p ∈ H.rs, XK <= p.1) {k ver z : Nat} {u : Value} (hk : E.rm k = some (ver, z, u)) : XK <= k := by
 have : k ∈ H.rs.map (·.1) := by
  apply Classical.byContradiction
  intro hno
  rw [h.h.rwn k (B3 hno)] at hk; cases hk
 obtain ⟨p, h1, rfl⟩ := List.mem_map.1 this
 exact hr p h1
theorem Plc.st (h : Plc P N ok tl H a w E) (hr : ∀ p ∈ H.rs, XK <= p.1) : St w ok (d3g P E) N (lAS tl H) a w E := by
 refine ⟨h.size, h.defers, fun t => (h.tm t).move (.refl _ w) (fun b _ => h.okE) (Nat.le_refl _) (.refl E), fun k cs hk => ?_, h.h.bxn, fun k r0 hk => ?_, h.h.rwn, h.h.ginj, h.h.gr, h.h.rr, fun k g hk => .inr (.inl ⟨k, hk⟩), fun k g _ hk => hk, h.nx, fun k ver z u b hk hu => .inr ⟨h.rkey hr hk, ⟨ver, z, u, hk, hu⟩, .inr ⟨k, ver, z, u, hk, hu⟩⟩, fun k z u _ hk => ⟨z, hk⟩, Grew.refl _ _, h.ty⟩
 ·obtain ⟨g, cur, ty, h1, h2, h3⟩ := h.h.bx k cs hk
  exact ⟨g, cur, ty, h1, h2, h3.move (.refl _ w) (fun b _ => h.okE) (Nat.le_refl _) (.refl E)⟩
 ·obtain ⟨h1, h2, u, vs', h3, h4, h5⟩ := h.h.rw k r0 hk
  exact ⟨h1, h2, u, vs', h3, h4, h5.move (.refl _ w) (fun b _ => h.okE) (Nat.le_refl _)⟩
def AS.tls (s : AS) (ts : List Nat) (m : CAnn) : List (Nat × Val) := ts.map fun t => (t, s.passV m (s.tm t))
theorem b1Z (f : Nat -> Val) : ∀ (ts : List Nat) (t : Nat), m7 (ts.map fun t => (t, f t)) t = if t ∈ ts then f t else .any
 | [], t => rfl
 | j :: ts, t => by
  simp only [List.map_cons, m7, b1Z f ts t, List.mem_cons]
  by_cases e : t = j
  ·subst e; simp
  ·simp [e]
theorem Plc.of_st (h : Plc P N ok tl H a w E) {s' : AS} (hs : St w ok (d3g P E) N s' a' w' E') (ts : List Nat) (m : CAnn) :
  Plc P N (Go.Ai.okE w ok E') (s'.tls ts m) (s'.hp m) a' w' (E'.pass m) ∧ Adv w ok E w' (Go.Ai.okE w ok E') (E'.pass m) := by
 have hT := h.tabs
 have hp : ∀ {b}, (E'.pass m).own b -> E'.own b := fun {b} hb => by
  rcases hb with ⟨k, hk⟩ | ⟨k, ver, z, u, hk, hu⟩
  ·exact .inl ⟨k, (D9 hk).2⟩
  ·obtain ⟨_, _, v1, h3⟩ := G1 hk
   exact .inr ⟨k, v1, z, u, h3, hu⟩
 have hown : ∀ {b}, E'.own b -> w.heap.size <= b ∨ E.own b := fun {b} hb => by
  rcases hb with ⟨k, hk⟩ | ⟨k, ver, z, u, hk, hu⟩
  ·exact hs.gfr k b hk
  ·exact (hs.rfr k ver z u b hk hu).imp id (fun h => h.2.2)
 refine ⟨⟨⟨b2w hs m _, fun b hb ho => ?_, fun k g hk hg => hs.bt k g hk (D9 hg).2, hs.tab.1⟩, hs.size, h.nx, hs.defers, fun t => ?_⟩, ⟨⟨hs.frame, fun b hb ho => ?_, fun b hb => hown (hp hb)⟩, fun k g hk hg => hs.gx k g (.inr hk) (D9 hg).2, fun k u hk hu => ?_⟩⟩
 rotate_left
 ·rw [AS.tls, b1Z]
  split
  ·exact a5q hs m (hs.tm t)
  ·exact .any
 rotate_right
 ·rcases hp hb with ⟨k, hk⟩ | ⟨k, ver, z, u, hk, hu⟩
  ·exact ho.1 k hk
  ·exact ho.2.1 k ver z u hk hu
 ·refine ⟨fun k hk => ?_, fun k ver z u hk hu => ?_, .inr ho⟩
  ·rcases hs.gfr k b hk with h1 | h1
   ·omega
   ·exact h.no b h1 ho
  ·rcases hs.rfr k ver z u b hk hu with h1 | h1
   ·omega
   ·exact h.no b h1.2.2 ho
 ·obtain ⟨_, _, v1, hu'⟩ := G1 hu
  have hrow : ∃ r, s'.rw k = some r := by
   cases hx : s'.rw k with
   | none => rw [hs.rwn k hx] at hu'; cases hu'
   | some r => exact ⟨r, rfl⟩
  obtain ⟨r, hr⟩ := hrow
  obtain ⟨q1, _, u1, vs, q2, q3, _⟩ := hs.rw k r hr
  rw [hu'] at q2
  simp only [Option.some.injEq, Prod.mk.injEq] at q2
  obtain ⟨rfl, hz, rfl⟩ := q2
  rw [q1 hz.symm] at hu'
  obtain ⟨z, hz2⟩ := hs.rst k _ _ hk hu'
  have hrow2 : ∃ r, f7 H.rs k = some r := by
   cases hx : f7 H.rs k with
   | none => rw [h.h.rwn k hx] at hz2; cases hz2
   | some r => exact ⟨r, rfl⟩
  obtain ⟨r0, hr0⟩ := hrow2
  obtain ⟨_, _, u2, vs2, p2, p3, _⟩ := h.h.rw k r0 hr0
  rw [hz2] at p2
  simp only [Option.some.injEq, Prod.mk.injEq] at p2
  obtain ⟨_, rfl, rfl⟩ := p2
  rcases q3 with ⟨h0, _⟩ | ⟨_, b, es, clock, rfl, _⟩
  ·omega
  rcases p3 with ⟨h0, ho⟩ | ⟨h0, _⟩
  ·rcases ho.2 with ⟨h, _⟩ | ⟨_, _, _, h, _⟩ <;> cases h
  ·rw [h0] at hz2; exact hz2
def AX.exit : AX -> Exit
 | .nrm => .normal
 | .ret => .ret
 | .ex id => .exit id
theorem Plc.code (h : Plc P N ok tl H a w E) (hr : ∀ p ∈ H.rs, XK <= p.1) {c : Code} {l : List Ann} {ac : AC} (hc : b0 P N c l = some (ac, [])) (ts : List Nat) (m : CAnn) {Q : AX -> AS -> Prop} (hQ : ex P ac [] Q (lAS tl H))
  {R : Exit -> Act -> World -> Prop} (hR : ∀ x s' a' w' ok' E', Q x s' -> Plc P N ok' (s'.tls ts m) (s'.hp m) a' w' E' -> Adv w ok E w' ok' E' -> R x.exit a' w') : c.wp P R a w := by
 have hT := h.tabs
 refine wp_mono (y8 c l [] ac hc _ _ _ _ _ (h.st hr) hQ) fun e a' w' hq => ?_
 cases e with
 | normal => obtain ⟨s', E', hs, hq⟩ := hq; obtain ⟨h1, h2⟩ := h.of_st hs ts m; exact hR .nrm s' a' w' _ _ hq h1 h2
 | ret => obtain ⟨s', E', hs, hq⟩ := hq; obtain ⟨h1, h2⟩ := h.of_st hs ts m; exact hR .ret s' a' w' _ _ hq h1 h2
 | exit id => obtain ⟨s', E', hs, hq⟩ := hq; obtain ⟨h1, h2⟩ := h.of_st hs ts m; exact hR (.ex id) s' a' w' _ _ hq h1 h2
 | _ => exact hq.elim
theorem a5k {w0 : World} {okA : Nat -> Prop} {ext : Ext} [hT : b1K P w0 okA ext] {ops : Array Oper} {ca : List (Nat × CAnn)} {Q : Exit -> Act -> World -> Prop} {rest : List Oper} : ∀ (l : List Oper) (gs : List GI), l.mapM (l7 P N ca ops) = some gs -> ∀ (s : AS) (a : Act) (w : World) (E : Env), St w0 okA ext N s a w E ->
  a6M P gs (fun s' => ∀ a' w' E', St w0 okA ext N s' a' w' E' -> wpList P ops Q rest a' w') s -> wpList P ops Q (l ++ rest) a w
 | [], gs, hc, s, a, w, E, h, hK => by
  simp at hc; subst hc; exact hK a w E h
 | o :: l, gs, hc, s, a, w, E, h, hK => by
  simp only [List.mapM_cons, Option.bind_eq_bind, Option.bind_eq_some_iff, Option.pure_def, Option.some.injEq] at hc
  obtain ⟨g, hg, gs', hgs, rfl⟩ := hc
  have h1 := V5 (K := wpList P ops Q (l ++ rest)) (Q := Q) h hg (H5 (fun s' hs' a' w' E' hst => a5k l gs' hgs s' a' w' E' hst hs') hK)
  simp only [List.cons_append, wpList]
  split
  ·rename_i hw; rw [if_pos hw] at h1; exact .inl h1
  ·rename_i hw; rw [if_neg hw] at h1; exact h1
theorem Plc.ops (h : Plc P N ok tl H a w E) (hr : ∀ p ∈ H.rs, XK <= p.1) {ops : Array Oper} {ca : List (Nat × CAnn)} (l rest : List Oper) {gs : List GI} (hg : l.mapM (l7 P N ca ops) = some gs) (ts : List Nat) (m : CAnn) {kp : Option Keep} {Q : AX -> AS -> Prop} (hQ : ex P (.reg false gs kp) [] Q (lAS tl H))
  {R : Exit -> Act -> World -> Prop} (hR : ∀ s' a' w' ok' E', Q .nrm s' -> Plc P N ok' (s'.tls ts m) (s'.hp m) a' w' E' -> Adv w ok E w' ok' E' -> wpList P ops R rest a' w') : wpList P ops R (l ++ rest) a w := by
 have hT := h.tabs
 have hmono : ∀ (gs : List GI) (T T' : AS -> Prop), (∀ s, T s -> T' s) -> ∀ s, a6M P gs T s -> a6M P gs T' s := by
  intro gs
  induction gs with
  | nil => intro T T' hT s h; exact hT s h
  | cons g gs ih => intro T T' hT s h; exact H5 (fun s hs => ih T T' hT s hs) h
 refine a5k l gs hg _ a w E (h.st hr) (hmono gs _ _ (fun s' hs' a' w' E' hst => ?_) _ hQ)
 obtain ⟨E2, hst2⟩ := hst.keep kp
 obtain ⟨h1, h2⟩ := h.of_st hst2 ts m
 exact hR _ a' w' _ _ hs' h1 h2
theorem Plc.put (h : Plc P N ok tl H a w E) (d : Nat) (hd : d < N) {x : Val} {v : Value} (hx : VRel w ok w.heap.size E x v) : Plc P N ok ((d, x) :: tl) H (a.put (some d) v) w E := by
 refine ⟨h.toWd, by simp [Act.put, h.size], h.nx, h.defers, fun t => ?_⟩
 simp only [m7, Act.put]
 by_cases ht : t = d
 ·subst ht
  have : (a.tmps.setIfInBounds t v).getD t undef = v := by simp [Array.getD, h.size, hd]
  rw [if_pos rfl, this]; exact hx
 ·have : (a.tmps.setIfInBounds d v).getD t undef = a.tmps.getD t undef := by
   simp [Array.getD_eq_getD_getElem?, Ne.symm ht]
  rw [if_neg ht, this]; exact h.tm t
theorem Plc.mkfn (h : Plc P N ok tl H a w E) {ops : Array Oper} {o : Oper} {rest : List Oper} {d f : Nat} {caps : Array Operand} (ho : o.op = .makeFunc (.func f) #[] caps) (hgd : o.guard = none) (hdst : o.dst = some d) (hd : d < N)
  {R : Exit -> Act -> World -> Prop} (hR : Plc P N ok ((d, .one (.g (.func (.func f) #[] (caps.map a.eval)))) :: tl) H (a.put (some d) (.func (.func f) #[] (caps.map a.eval))) w E -> wpList P ops R rest (a.put (some d) (.func (.func f) #[] (caps.map a.eval))) w) : wpList P ops R (o :: rest) a w := by
 simp only [wpList]
 rw [if_pos (by simp [Region.wanted, hgd])]
 refine .inl (f9 (v := .func (.func f) #[] (caps.map a.eval)) (w' := w) ?_ (by rw [hdst]; exact hR (h.put d hd (.one ⟨rfl, rfl⟩))))
 simp only [execOp, ho, Instr.makeFunc]
 simp
theorem Plc.start (h : Wd P ok H w E) {args : List Val} {vs : List Value} (hlen : args.length = vs.length) (hargs : ∀ (i : Nat) (x : Val) (u : Value), args[i]? = some x -> vs[i]? = some u -> VRel w ok w.heap.size E x u) {n : Nat} (hn : args.length <= n) (hN : n <= 900000) :
  Plc P n ok (O6 0 args) H { tmps := vs.toArray ++ Array.replicate (n - vs.toArray.size) undef, defers := [] } w E := by
 refine ⟨h, by simp at hn ⊢; omega, hN, rfl, fun t => ?_⟩
 simp only [X7, Nat.zero_le, if_true, Nat.sub_zero]
 cases ht : args[t]? with
 | none => exact .any
 | some x =>
  have hlt : t < vs.length := by have := (List.getElem?_eq_some_iff.1 ht).1; omega
  have h1 : (vs.toArray ++ Array.replicate (n - vs.toArray.size) undef).getD t undef = vs[t] := by
   rw [Array.getD_eq_getD_getElem?, Array.getElem?_append_left (by simpa using hlt)]; simp [hlt]
  simp only [Option.getD_some]
  rw [h1]
  exact hargs t x _ ht (List.getElem?_eq_getElem hlt)
theorem Plc.set (h : Plc P N ok tl H a w E) (tl' : List (Nat × Val)) (ht : ∀ p ∈ tl', VRel w ok w.heap.size E p.2 (a.tmps.getD p.1 undef)) : Plc P N ok tl' H a w E := by
 refine ⟨h.toWd, h.size, h.nx, h.defers, fun t => ?_⟩
 induction tl' with
 | nil => exact .any
 | cons p tl' ih =>
  simp only [m7]
  by_cases e : t = p.1
  ·subst e; rw [if_pos rfl]; exact ht p (by simp)
  ·rw [if_neg e]; exact ih fun q hq => ht q (by simp [hq])
theorem Plc.tail (h : Plc P N ok tl H a w E) {p : Nat × Val} {tl' : List (Nat × Val)} (e : tl = p :: tl') (hn : m7 tl' p.1 = .any) : Plc P N ok tl' H a w E := by
 subst e
 refine ⟨h.toWd, h.size, h.nx, h.defers, fun t => ?_⟩
 have := h.tm t
 simp only [m7] at this
 by_cases e : t = p.1
 ·subst e; rw [hn]; exact .any
 ·rw [if_neg e] at this; exact this
theorem Plc.bool (h : Plc P N ok tl H a w E) {t : Nat} {b : Bool} (ht : m7 tl t = .one (.g (.bool b))) : a.eval (.tmp t) = .bool b := by
 have := h.tm t
 rw [ht] at this
 cases this with
 | one h1 => exact h1.1
theorem Plc.same (h : Plc P N ok' tl' H' a' w' E') (hA : Adv w ok E w' ok' E') {k g : Nat} {cs : List Cel} (hk : f7 H'.bs k = some cs) (hx : XK <= k) (hg : E.gm k = some g) : E'.gm k = some g := by
 obtain ⟨g', _, _, h1, _⟩ := h.h.bx k cs hk
 have := hA.pin k g' hx h1
 rw [hg] at this; injection this with this; rw [h1, this]
def d5F : Cel -> Cel
 | .fn f [] => .g (.func (.func f) #[] #[])
 | c => c
theorem VRel.unf {cs : List Cel} {v : Value} {base : Nat} (h : VRel w ok base E (.ag cs) v) : VRel w ok base E (.ag (cs.map d5F)) v := by
 cases h with
 | ag h =>
  refine .ag ⟨by simpa using h.1, fun i c u h1 h2 => ?_⟩
  rw [List.getElem?_map] at h1
  cases hi : cs[i]? with
  | none => rw [hi] at h1; cases h1
  | some c0 =>
   rw [hi] at h1; simp at h1; subst h1
   have h3 := h.2 i c0 u hi h2
   unfold d5F
   split
   ·rename_i f
    obtain ⟨us, rfl, hl, _⟩ := h3
    have : us = [] := List.length_eq_zero_iff.1 hl.symm
    subst this
    exact ⟨rfl, rfl⟩
   ·exact h3
theorem Plc.ptr (h : Plc P N ok tl H a w E) {t k off g : Nat} (ht : m7 tl t = .one (.bx k off)) (hg : E.gm k = some g) : a.eval (.tmp t) = .pointer (some ⟨g, off, Option.none⟩) := by
 have := h.tm t
 rw [ht] at this
 generalize hv : a.tmps.getD t undef = v at this
 cases this with
 | one h1 =>
  obtain ⟨g', h2, rfl⟩ := h1
  rw [hg] at h2; injection h2 with h2; subst h2
  exact hv
theorem Plc.epv (h : Plc P N ok tl H a w E) {t : Nat} {cs : List Cel} (ht : m7 tl t = .one (.ep cs)) : CRel0 w ok 0 Env.none (.ep cs) (a.eval (.tmp t)) := by
 have := h.tm t
 rw [ht] at this
 generalize hv : a.tmps.getD t undef = v at this
 cases this with
 | one h1 => rw [show a.eval (.tmp t) = v from hv]; exact h1
def c1w (k : Nat) (cs : List Cel) : Cel -> Cel
 | .bx j off => if j = k then .ep ((cs.drop off).map Cel.dat) else .bx j off
 | .fn _ _ => .any
 | c => c
def d5B (k : Nat) (cs : List Cel) : Val -> Val
 | .one c => .one (c1w k cs c)
 | .ag ds => .ag (ds.map (c1w k cs))
 | _ => .any
def Env.del (E : Env) (k : Nat) : Env := ⟨fun j => if j = k then Option.none else E.gm j, E.rm⟩
theorem Env.del_gm {k j g : Nat} (h : (E.del k).gm j = some g) : j ≠ k ∧ E.gm j = some g := by
 simp only [Env.del] at h
 by_cases e : j = k
 ·rw [if_pos e] at h; cases h
 ·rw [if_neg e] at h; exact ⟨e, h⟩
theorem d3x {c : Cel} {u : Value} {base : Nat} {E : Env} (hd : c.isD = true) (h : CRel w ok base E c u) (hok : ∀ b, ok b -> ok' b) : DRel w ok' c.dat u := by
 cases c with
 | g v => obtain ⟨rfl, h1⟩ := h; exact .g h1
 | any => exact .any h
 | fm kc es => exact DRel.keep h (.refl _ w) fun b _ h => hok b h
 | sl fr z es =>
  have h1 : DRel w ok' (.sl fr z es) u := by
   refine DRel.keep (ok' := ok') (show DRel w (if fr then (fun b => base <= b ∧ ok b) else ok) (.sl fr z es) u from h) (.refl _ w) fun b _ h => hok b ?_
   cases fr with
   | true => exact h.2
   | false => exact h
  cases h1 with
  | nil => exact .nil
  | sl us h1 h2 h3 h4 h5 h6 h7 => exact .sl us h1 h2 h3 h4 h5 h6 h7
 | _ => cases hd
theorem Q1 {k g : Nat} {cs : List Cel} (hg : E.gm k = some g) (hc : CRel0 w ok' w.heap.size E (.ep (cs.map Cel.dat)) (.pointer (some ⟨g, 0, none⟩))) (hok : ∀ b, ok b -> ok' b) {c : Cel} {v : Value} (h : CRel0 w ok w.heap.size E c v) : CRel0 w ok' w.heap.size (E.del k) (c1w k cs c) v := by
 have mv : ∀ {c}, (∀ j off, c ≠ .bx j off) -> CRel0 w ok w.heap.size E c v -> CRel0 w ok' w.heap.size (E.del k) c v := fun {c} hb h => by
  have h1 := h.move (.refl _ w) (fun b _ h => hok b h) (Nat.le_refl _) (.refl E)
  cases c with
  | bx j off => exact absurd rfl (hb j off)
  | _ => exact h1
 cases c with
 | bx j off =>
  obtain ⟨g', h1, rfl⟩ := h
  simp only [c1w]
  split
  ·rename_i e
   subst e
   rw [hg] at h1; injection h1 with h1; subst h1
   obtain ⟨b, o, us, h2, h3, h4, h5⟩ := hc
   simp only [Value.pointer.injEq, Option.some.injEq, Addr.mk.injEq, and_true] at h2
   obtain ⟨rfl, rfl⟩ := h2
   refine ⟨g, off, fun i => us (off + i), rfl, h3, h4, fun i x hx => ?_⟩
   rw [List.map_drop, List.getElem?_drop] at hx
   have := h5 (off + i) x hx
   rw [Nat.zero_add] at this
   exact this
  ·rename_i e
   exact ⟨g', by simp [Env.del, e, h1], rfl⟩
 | fn f caps => exact h.elim
 | _ => exact mv (fun _ _ h => by cases h) h
theorem c9v {k g : Nat} {cs : List Cel} (hg : E.gm k = some g) (hc : CRel0 w ok' w.heap.size E (.ep (cs.map Cel.dat)) (.pointer (some ⟨g, 0, none⟩))) (hok : ∀ b, ok b -> ok' b) {c : Cel} {v : Value} (h : CRel w ok w.heap.size E c v) : CRel w ok' w.heap.size (E.del k) (c1w k cs c) v := by
 cases c with
 | fn f caps => obtain ⟨us, h1, _⟩ := h; subst h1; show Value.oneCell' _ = true; rfl
 | g u => exact (Q1 hg hc hok (c := .g u) h).toC
 | sl fr z es => exact (Q1 hg hc hok (c := .sl fr z es) h).toC
 | ep cs => exact (Q1 hg hc hok (c := .ep cs) h).toC
 | bx j off => exact (Q1 hg hc hok (c := .bx j off) h).toC
 | ow j ver => exact (Q1 hg hc hok (c := .ow j ver) h).toC
 | op j ver i off => exact (Q1 hg hc hok (c := .op j ver i off) h).toC
 | os j ver lo => exact (Q1 hg hc hok (c := .os j ver lo) h).toC
 | ws j ver lo hi => exact (Q1 hg hc hok (c := .ws j ver lo hi) h).toC
 | mp j => exact (Q1 hg hc hok (c := .mp j) h).toC
 | fm kc es => exact (Q1 hg hc hok (c := .fm kc es) h).toC
 | any => exact (Q1 hg hc hok (c := .any) h).toC
theorem c1f {k g : Nat} {cs : List Cel} (hg : E.gm k = some g) (hc : CRel0 w ok' w.heap.size E (.ep (cs.map Cel.dat)) (.pointer (some ⟨g, 0, none⟩))) (hok : ∀ b, ok b -> ok' b) {ds : List Cel} {us : List Value} (h : CsRel w ok w.heap.size E ds us) : CsRel w ok' w.heap.size (E.del k) (ds.map (c1w k cs)) us := by
 refine ⟨by simpa using h.1, fun i c u h1 h2 => ?_⟩
 rw [List.getElem?_map] at h1
 cases hi : ds[i]? with
 | none => rw [hi] at h1; cases h1
 | some c0 => rw [hi] at h1; simp at h1; subst h1; exact c9v hg hc hok (h.2 i c0 u hi h2)
def c7i (k : Nat) (cs : List Cel) : List (Nat × List Cel) -> List (Nat × List Cel)
 | [] => []
 | p :: l => if p.1 = k then c7i k cs l else (p.1, p.2.map (c1w k cs)) :: c7i k cs l
theorem a6E (k : Nat) (cs : List Cel) : ∀ (l : List (Nat × List Cel)) (j : Nat), f7 (c7i k cs l) j = if j = k then none else (f7 l j).map (fun ds => ds.map (c1w k cs))
 | [], j => by simp [c7i, f7]
 | p :: l, j => by
  have ih := a6E k cs l j
  simp only [c7i, f7]
  by_cases e : p.1 = k
  ·rw [if_pos e, ih]
   by_cases e2 : j = k
   ·rw [if_pos e2, if_pos e2]
   ·rw [if_neg e2, if_neg e2, if_neg (by omega)]
  ·rw [if_neg e]
   simp only [f7]
   by_cases e3 : j = p.1
   ·rw [if_pos e3, if_pos e3, if_neg (by omega)]; rfl
   ·rw [if_neg e3, if_neg e3, ih]
theorem W2 (f : Val -> Val) (hf : f .any = .any) : ∀ (l : List (Nat × Val)) (t : Nat), m7 (l.map fun p => (p.1, f p.2)) t = f (m7 l t)
 | [], t => hf.symm
 | p :: l, t => by
  simp only [List.map_cons, m7, W2 f hf l t]
  split <;> rfl
theorem Plc.freeze (h : Plc P N ok tl H a w E) (k : Nat) {cs : List Cel} (hcs : f7 H.bs k = some cs) (hd : ∀ c ∈ cs, c.isD = true) :
  ∃ g ok', E.gm k = some g ∧ Plc P N ok' (tl.map fun p => (p.1, d5B k cs p.2)) ⟨c7i k cs H.bs, H.rs⟩ a w (E.del k) ∧ Adv w ok E w ok' (E.del k) := by
 obtain ⟨g, cur, ty, hg, hgh, hc0⟩ := h.h.bx k cs hcs
 have hlt : g < w.heap.size := (Array.getElem?_eq_some_iff.1 hgh).1
 refine ⟨g, fun b => ok b ∨ b = g, hg, ?_, ⟨Grew.refl _ _, fun b _ h => .inl h, fun b hb => .inr ?_⟩, fun j g' _ h1 => (Env.del_gm h1).2, fun _ _ _ h1 => h1⟩
 rotate_left
 ·rcases hb with ⟨j, hj⟩ | hr
  ·exact .inl ⟨j, (Env.del_gm hj).2⟩
  ·exact .inr hr
 have hok : ∀ b, ok b -> ok b ∨ b = g := fun b h => .inl h
 have hc : CRel0 w (fun b => ok b ∨ b = g) w.heap.size E (.ep (cs.map Cel.dat)) (.pointer (some ⟨g, 0, none⟩)) := by
  refine ⟨g, 0, fun j => (cur.toList[j]?).getD undef, rfl, .inr rfl, hlt, fun j x hx => ?_⟩
  rw [List.getElem?_map] at hx
  cases hj : cs[j]? with
  | none => rw [hj] at hx; cases hx
  | some c =>
   rw [hj] at hx; simp at hx; subst hx
   have hjl : j < cur.toList.length := by rw [<- hc0.1]; exact (List.getElem?_eq_some_iff.1 hj).1
   have hju : cur.toList[j]? = some cur.toList[j] := List.getElem?_eq_getElem hjl
   refine ⟨?_, ?_⟩
   ·rw [Nat.zero_add, cell_of_row w g j cur ty (0, 0) hgh, <- Array.getElem?_toList]
    simp only [hju, Option.getD_some]
   ·simp only [hju, Option.getD_some]
    exact d3x (hd c (List.mem_of_getElem? hj)) (hc0.2 j c _ hj hju) hok
 refine ⟨⟨⟨fun j ds hj => ?_, fun j hj => ?_, fun j r0 hj => ?_, h.h.rwn, fun j j' g' h1 h2 => h.h.ginj j j' g' (Env.del_gm h1).2 (Env.del_gm h2).2, fun j g' k' ver z u h1 h2 => h.h.gr j g' k' ver z u (Env.del_gm h1).2 h2, h.h.rr⟩, fun b hb ho => ?_, fun j g' hj hg' => h.ty j g' hj (Env.del_gm hg').2, ?_⟩, h.size, h.nx, h.defers, fun t => ?_⟩
 ·simp only [a6E] at hj
  split at hj
  ·cases hj
  ·rename_i e
   cases hx : f7 H.bs j with
   | none => rw [hx] at hj; cases hj
   | some ds0 =>
    rw [hx] at hj; simp at hj; subst hj
    obtain ⟨g', cur', ty', h1, h2, h3⟩ := h.h.bx j ds0 hx
    exact ⟨g', cur', ty', by simp [Env.del, e, h1], h2, c1f hg hc hok h3⟩
 ·simp only [a6E] at hj
  simp only [Env.del]
  split at hj
  ·rename_i e; rw [if_pos e]
  ·rename_i e; rw [if_neg e]; exact h.h.bxn j (by simpa using hj)
 ·obtain ⟨h1, h2, u, vs', h3, h4, h5⟩ := h.h.rw j r0 hj
  exact ⟨h1, h2, u, vs', h3, h4, h5.move (.refl _ w) (fun b _ h => hok b h) (Nat.le_refl _)⟩
 ·rcases hb with ⟨j, hj⟩ | ⟨j, ver, z, u, h1, h2⟩
  ·obtain ⟨e1, e2⟩ := Env.del_gm hj
   rcases ho with ho | rfl
   ·exact h.no b (.inl ⟨j, e2⟩) ho
   ·exact e1 (h.h.ginj j k _ e2 hg)
  ·rcases ho with ho | rfl
   ·exact h.no b (.inr ⟨j, ver, z, u, h1, h2⟩) ho
   ·exact h.h.gr k _ j ver z u hg h1 h2
 ·obtain ⟨W, h1, h2, h3⟩ := h.tab
  exact ⟨W, h1, h2, fun b hb => ⟨.inl (h3 b hb).1, (h3 b hb).2⟩⟩
 ·rw [W2 (d5B k cs) rfl]
  have ht := h.tm t
  revert ht
  generalize m7 tl t = x
  generalize a.tmps.getD t undef = v
  intro ht
  cases ht with
  | one h1 => exact .one (c9v hg hc hok h1)
  | ag h1 => exact .ag (c1f hg hc hok h1)
  | tu => exact .any
  | any => exact .any
def a6U (k : Nat) (r : Row) : Cel -> Cel
 | .ow j ver => if j = k then (if ver = r.ver then .sl false r.z r.es else .any) else .ow j ver
 | .mp j => if j = k then .fm r.E r.es else .mp j
 | .op j ver i off => if j = k then .any else .op j ver i off
 | .os j ver lo => if j = k then .any else .os j ver lo
 | .ws j ver lo hi => if j = k then .any else .ws j ver lo hi
 | .fn _ _ => .any
 | c => c
def d5v (k : Nat) (r : Row) : Val -> Val
 | .one c => .one (a6U k r c)
 | .ag ds => .ag (ds.map (a6U k r))
 | _ => .any
def Env.delR (E : Env) (k : Nat) : Env := ⟨E.gm, fun j => if j = k then Option.none else E.rm j⟩
theorem Env.delR_rm {k j : Nat} {x : Nat × Nat × Value} (h : (E.delR k).rm j = some x) : j ≠ k ∧ E.rm j = some x := by
 simp only [Env.delR] at h
 by_cases e : j = k
 ·rw [if_pos e] at h; cases h
 ·rw [if_neg e] at h; exact ⟨e, h⟩
def delR (k : Nat) : List (Nat × Row) -> List (Nat × Row)
 | [] => []
 | p :: l => if p.1 = k then delR k l else p :: delR k l
theorem a1d (k : Nat) : ∀ (l : List (Nat × Row)) (j : Nat), f7 (delR k l) j = if j = k then none else f7 l j
 | [], j => by simp [delR, f7]
 | p :: l, j => by
  have ih := a1d k l j
  simp only [delR, f7]
  by_cases e : p.1 = k
  ·rw [if_pos e, ih]
   by_cases e2 : j = k
   ·rw [if_pos e2, if_pos e2]
   ·rw [if_neg e2, if_neg e2, if_neg (by omega)]
  ·rw [if_neg e]
   simp only [f7]
   by_cases e3 : j = p.1
   ·rw [if_pos e3, if_pos e3, if_neg (by omega)]
   ·rw [if_neg e3, if_neg e3, ih]
theorem X4 {α β : Type} (f : α -> β) : ∀ (l : List (Nat × α)) (j : Nat), f7 (l.map fun p => (p.1, f p.2)) j = (f7 l j).map f
 | [], j => rfl
 | p :: l, j => by
  simp only [List.map_cons, f7, X4 f l j]
  split <;> rfl
theorem Q9 {k : Nat} {r : Row} {base : Nat} (hk : ∀ (z ver : Nat) (u : Value), E.rm k = some (ver, z, u) -> ver = r.ver ∧ (0 < z -> DRel w ok' (.sl false r.z r.es) u) ∧ (z = 0 -> DRel w ok' (.fm r.E r.es) u)) (hok : ∀ b, ok b -> ok' b) {c : Cel} {v : Value} (h : CRel0 w ok base E c v) : CRel0 w ok' base (E.delR k) (a6U k r c) v := by
 have h1 := h.move (base' := base) (.refl _ w) (fun b _ h => hok b h) (Nat.le_refl _) (.refl E)
 have hone := h.oneC
 cases c with
 | ow j ver =>
  simp only [a6U]
  split
  ·rename_i e; subst e
   split
   ·rename_i hv; subst hv
    obtain ⟨_, ver', z, u, hr, hle, hv, hz⟩ := h
    obtain ⟨rfl, h3, _⟩ := hk z ver' u hr
    rw [hv rfl]
    exact h3 hz
   ·exact hone
  ·rename_i e
   obtain ⟨a1, ver', z, u, hr, rest⟩ := h1
   exact ⟨a1, ver', z, u, by simp [Env.delR, e, hr], rest⟩
 | mp j =>
  simp only [a6U]
  split
  ·rename_i e; subst e
   obtain ⟨_, ver', u, hr, rfl⟩ := h
   exact (hk 0 ver' _ hr).2.2 rfl
  ·rename_i e
   obtain ⟨a1, ver', u, hr, rest⟩ := h1
   exact ⟨a1, ver', u, by simp [Env.delR, e, hr], rest⟩
 | op j ver i off =>
  simp only [a6U]
  split
  ·exact hone
  ·rename_i e
   obtain ⟨a1, ver', z, u, hr, rest⟩ := h1
   exact ⟨a1, ver', z, u, by simp [Env.delR, e, hr], rest⟩
 | os j ver lo =>
  simp only [a6U]
  split
  ·exact hone
  ·rename_i e
   obtain ⟨a1, ver', z, u, hr, rest⟩ := h1
   exact ⟨a1, ver', z, u, by simp [Env.delR, e, hr], rest⟩
 | ws j ver lo hi =>
  simp only [a6U]
  split
  ·exact hone
  ·rename_i e
   obtain ⟨a1, ver', z, u, hr, rest⟩ := h1
   exact ⟨a1, ver', z, u, by simp [Env.delR, e, hr], rest⟩
 | fn f caps => exact h.elim
 | _ => exact h1
theorem d1d {k : Nat} {r : Row} {base : Nat} (hk : ∀ (z ver : Nat) (u : Value), E.rm k = some (ver, z, u) -> ver = r.ver ∧ (0 < z -> DRel w ok' (.sl false r.z r.es) u) ∧ (z = 0 -> DRel w ok' (.fm r.E r.es) u)) (hok : ∀ b, ok b -> ok' b) {c : Cel} {v : Value} (h : CRel w ok base E c v) : CRel w ok' base (E.delR k) (a6U k r c) v := by
 cases c with
 | fn f caps => obtain ⟨us, h1, _⟩ := h; subst h1; show Value.oneCell' _ = true; rfl
 | g u => exact (Q9 hk hok (c := .g u) h).toC
 | sl fr z es => exact (Q9 hk hok (c := .sl fr z es) h).toC
 | ep cs => exact (Q9 hk hok (c := .ep cs) h).toC
 | bx j off => exact (Q9 hk hok (c := .bx j off) h).toC
 | ow j ver => exact (Q9 hk hok (c := .ow j ver) h).toC
 | op j ver i off => exact (Q9 hk hok (c := .op j ver i off) h).toC
 | os j ver lo => exact (Q9 hk hok (c := .os j ver lo) h).toC
 | ws j ver lo hi => exact (Q9 hk hok (c := .ws j ver lo hi) h).toC
 | mp j => exact (Q9 hk hok (c := .mp j) h).toC
 | fm kc es => exact (Q9 hk hok (c := .fm kc es) h).toC
 | any => exact (Q9 hk hok (c := .any) h).toC
theorem c1D {k : Nat} {r : Row} {base : Nat} (hk : ∀ (z ver : Nat) (u : Value), E.rm k = some (ver, z, u) -> ver = r.ver ∧ (0 < z -> DRel w ok' (.sl false r.z r.es) u) ∧ (z = 0 -> DRel w ok' (.fm r.E r.es) u)) (hok : ∀ b, ok b -> ok' b) {ds : List Cel} {us : List Value} (h : CsRel w ok base E ds us) : CsRel w ok' base (E.delR k) (ds.map (a6U k r)) us := by
 refine ⟨by simpa using h.1, fun i c u h1 h2 => ?_⟩
 rw [List.getElem?_map] at h1
 cases hi : ds[i]? with
 | none => rw [hi] at h1; cases h1
 | some c0 => rw [hi] at h1; simp at h1; subst h1; exact d1d hk hok (h.2 i c0 u hi h2)
theorem Plc.frzRow (h : Plc P N ok tl H a w E) (k : Nat) {r : Row} (hr : f7 H.rs k = some r) :
  ∃ ok', Plc P N ok' (tl.map fun p => (p.1, d5v k r p.2)) ⟨H.bs.map (fun p => (p.1, p.2.map (a6U k r))), Go.Ai.delR k H.rs⟩ a w (E.delR k) ∧ Adv w ok E w ok' (E.delR k) := by
 obtain ⟨r1, r2, u, vs, r3, r4, r5⟩ := h.h.rw k r hr
 refine ⟨fun b => ok b ∨ u6 u = some b, ?_, ⟨Grew.refl _ _, fun b _ h => .inl h, fun b hb => .inr ?_⟩, fun j g' _ h1 => h1, fun _ _ _ h1 => (Env.delR_rm h1).2⟩
 rotate_left
 ·rcases hb with hj | ⟨j, ver, z, u', hj, hu⟩
  ·exact .inl hj
  ·exact .inr ⟨j, ver, z, u', (Env.delR_rm hj).2, hu⟩
 have hok : ∀ b, ok b -> ok b ∨ u6 u = some b := fun b h => .inl h
 have hk : ∀ (z ver : Nat) (u' : Value), E.rm k = some (ver, z, u') -> ver = r.ver ∧ (0 < z -> DRel w (fun b => ok b ∨ u6 u = some b) (.sl false r.z r.es) u') ∧ (z = 0 -> DRel w (fun b => ok b ∨ u6 u = some b) (.fm r.E r.es) u') := fun z ver u' h1 => by
  rw [r3] at h1
  simp only [Option.some.injEq, Prod.mk.injEq] at h1
  obtain ⟨rfl, rfl, rfl⟩ := h1
  exact ⟨rfl, fun hz => a3e (r2.1 hz) (r4.row hz) rfl r5 hok (fun b hb => .inr hb), fun hz => a7D (r2.2 hz) (hz ▸ r4) rfl r5 hok (fun b hb => .inr hb)⟩
 refine ⟨⟨⟨fun j ds hj => ?_, fun j hj => ?_, fun j r0 hj => ?_, fun j hj => ?_, h.h.ginj, fun j g' k' ver z u h1 h2 => h.h.gr j g' k' ver z u h1 (Env.delR_rm h2).2, fun j ver z u j' ver' z' u' b h1 h2 h3 h4 => h.h.rr j ver z u j' ver' z' u' b (Env.delR_rm h1).2 (Env.delR_rm h2).2 h3 h4⟩, fun b hb ho => ?_, h.ty, ?_⟩, h.size, h.nx, h.defers, fun t => ?_⟩
 ·rw [show f7 (H.bs.map fun p => (p.1, p.2.map (a6U k r))) j = _ from X4 (fun ds => ds.map (a6U k r)) H.bs j] at hj
  cases hx : f7 H.bs j with
  | none => rw [hx] at hj; cases hj
  | some ds0 =>
   rw [hx] at hj; simp at hj; subst hj
   obtain ⟨g', cur', ty', h1, h2, h3⟩ := h.h.bx j ds0 hx
   exact ⟨g', cur', ty', h1, h2, c1D hk hok h3⟩
 ·rw [show f7 (H.bs.map fun p => (p.1, p.2.map (a6U k r))) j = _ from X4 (fun ds => ds.map (a6U k r)) H.bs j] at hj
  exact h.h.bxn j (by simpa using hj)
 ·rw [show f7 (Go.Ai.delR k H.rs) j = _ from a1d k H.rs j] at hj
  split at hj
  ·cases hj
  ·rename_i e
   obtain ⟨h1, h2, u, vs', h3, h4, h5⟩ := h.h.rw j r0 hj
   exact ⟨h1, h2, u, vs', by simp [Env.delR, e, h3], h4, h5.move (.refl _ w) (fun b _ h => hok b h) (Nat.le_refl _)⟩
 ·rw [show f7 (Go.Ai.delR k H.rs) j = _ from a1d k H.rs j] at hj
  simp only [Env.delR]
  split at hj
  ·rename_i e; rw [if_pos e]
  ·rename_i e; rw [if_neg e]; exact h.h.rwn j hj
 ·rcases hb with ⟨j, hj⟩ | ⟨j, ver, z, u', h1, h2⟩
  ·rcases ho with ho | ho
   ·exact h.no b (.inl ⟨j, hj⟩) ho
   ·exact h.h.gr j b k _ _ u hj r3 ho
  ·obtain ⟨e1, e2⟩ := Env.delR_rm h1
   rcases ho with ho | ho
   ·exact h.no b (.inr ⟨j, ver, z, u', e2, h2⟩) ho
   ·exact e1 (h.h.rr j ver z u' k _ _ u b e2 r3 h2 ho)
 ·obtain ⟨W, h1, h2, h3⟩ := h.tab
  exact ⟨W, h1, h2, fun b hb => ⟨.inl (h3 b hb).1, (h3 b hb).2⟩⟩
 ·rw [W2 (d5v k r) rfl]
  have ht := h.tm t
  revert ht
  generalize m7 tl t = x
  generalize a.tmps.getD t undef = v
  intro ht
  cases ht with
  | one h1 => exact .one (d1d hk hok h1)
  | ag h1 => exact .ag (c1D hk hok h1)
  | tu => exact .any
  | any => exact .any
theorem Plc.rn (h : Plc P N ok tl H a w E) {p q : Nat -> Nat} (hp : ∀ k, p (p k) = k) (hq : ∀ k, q (q k) = k) (hb : H.bs.all (fun x => W1 x.1 == W1 (p x.1)) = true) :
  Plc P N ok (tl.map fun x => (x.1, rnV p q x.2)) (H.rn p q) a w (E.rn p q) ∧ Adv0 w ok E w ok (E.rn p q) := by
 refine ⟨⟨⟨a6x hp hq h.h, fun b hb => h.no b ((a4E hp hq).1 hb), fun k g hk hg => ?_, h.tab⟩, h.size, h.nx, h.defers, fun t => ?_⟩, ⟨Grew.refl _ _, fun _ _ h => h, fun b hb => .inr ((a4E hp hq).1 hb)⟩⟩
 ·have hin : p k ∈ H.bs.map (·.1) := by
   apply Classical.byContradiction
   intro hno
   have : E.gm (p k) = none := h.h.bxn _ (B3 hno)
   simp only [Env.rn] at hg
   rw [this] at hg; cases hg
  obtain ⟨x, hx, hxk⟩ := List.mem_map.1 hin
  have h1 := beq_iff_eq.1 (List.all_eq_true.1 hb x hx)
  rw [hxk, hp] at h1
  exact h.ty (p k) g (by rw [h1]; exact hk) hg
 ·rw [W2 (rnV p q) rfl]
  exact a6a hp hq (h.tm t)
def C9 (ts : List Nat) (m : CAnn) (tl : List (Nat × Val)) (H : Hp) : AX -> AS -> Prop
 | .nrm, s => s.tls ts m = tl ∧ s.hp m = H
 | _, _ => False
theorem b9b {ts : List Nat} {m : CAnn} {s : AS} : C9 ts m tl H .nrm s = (s.tls ts m = tl ∧ s.hp m = H) := rfl
theorem c5I {m : CAnn} {s : AS} : s.tls [] m = [] := rfl
theorem b7J {m : CAnn} {s : AS} {t : Nat} {ts : List Nat} : s.tls (t :: ts) m = (t, s.passV m (s.tm t)) :: s.tls ts m := rfl
theorem Plc.code1 (h : Plc P N ok tl H a w E) {c : Code} {l : List Ann} {ac : AC} (hc : b0 P N c l = some (ac, [])) (hr : ∀ p ∈ H.rs, XK <= p.1) (ts : List Nat) (m : CAnn) {tl' : List (Nat × Val)} {H' : Hp} (hQ : ex P ac [] (C9 ts m tl' H') (lAS tl H))
  {R : Exit -> Act -> World -> Prop} (hR : ∀ a' w' ok' E', Plc P N ok' tl' H' a' w' E' -> Adv w ok E w' ok' E' -> R .normal a' w') : c.wp P R a w := by
 refine h.code hr hc ts m hQ fun x s' a' w' ok' E' hq hP hA => ?_
 cases x with
 | nrm => obtain ⟨rfl, rfl⟩ := hq; exact hR a' w' ok' E' hP hA
 | ret => exact hq.elim
 | ex id => exact hq.elim
theorem Plc.ops1 (h : Plc P N ok tl H a w E) {ops : Array Oper} {ca : List (Nat × CAnn)} {l rest : List Oper} {gs : List GI} (hg : l.mapM (l7 P N ca ops) = some gs) (hr : ∀ p ∈ H.rs, XK <= p.1) (ts : List Nat) (m : CAnn) {kp : Option Keep} {tl' : List (Nat × Val)} {H' : Hp} (hQ : ex P (.reg false gs kp) [] (C9 ts m tl' H') (lAS tl H))
  {R : Exit -> Act -> World -> Prop} (hR : ∀ a' w' ok' E', Plc P N ok' tl' H' a' w' E' -> Adv w ok E w' ok' E' -> wpList P ops R rest a' w') : wpList P ops R (l ++ rest) a w := by
 refine h.ops hr l rest hg ts m (kp := kp) hQ fun s' a' w' ok' E' hq hP hA => ?_
 obtain ⟨rfl, rfl⟩ := hq
 exact hR a' w' ok' E' hP hA
theorem b6o {Q : Exit -> Act -> World -> Prop} {x : Code} (I : Nat -> Act -> World -> Prop) (n : Nat) (h0 : I n a w) (round : ∀ n a w, I n a w -> x.wp P (Exit.then (fun a' w' => ∃ m, m < n ∧ I m a' w') Q) a w) : (Code.loop x).wp P Q a w := by
 have hex : ∀ (a : Act) (w : World), (∃ n, I n a w) -> ∃ n, I n a w ∧ ∀ m, I m a w -> n <= m := fun a w ⟨n, hn⟩ => by
  induction n using Nat.strongRecOn with
  | _ n ih =>
   by_cases hlt : ∃ m, m < n ∧ I m a w
   ·obtain ⟨m, hm, hj⟩ := hlt; exact ih m hm hj
   ·exact ⟨n, hn, fun m hm => Nat.le_of_not_lt fun hlt' => hlt ⟨m, hlt', hm⟩⟩
 let μ : Act -> World -> Nat := fun a w => @dite Nat (∃ n, I n a w) (Classical.propDecidable _) (fun hx => Classical.choose (hex a w hx)) (fun _ => 0)
 have hμ : ∀ a w, (hx : ∃ n, I n a w) -> I (μ a w) a w ∧ ∀ m, I m a w -> μ a w <= m := fun a w hx => by
  have : μ a w = Classical.choose (hex a w hx) := by simp only [μ]; rw [dif_pos hx]
  rw [this]; exact Classical.choose_spec (hex a w hx)
 refine wp_loop (fun a w => ∃ n, I n a w) μ ⟨n, h0⟩ (fun a w hx => ?_)
 refine wp_mono (round _ a w (hμ a w hx).1) fun e a' w' hq => ?_
 cases e with
 | normal => obtain ⟨m, hm, hI⟩ := hq; exact ⟨⟨m, hI⟩, Nat.lt_of_le_of_lt ((hμ a' w' ⟨m, hI⟩).2 m hI) hm⟩
 | _ => exact hq
def o7 : List Nat -> Code -> Code
 | [], c => c
 | 0 :: p, .seq x _ => o7 p x
 | 1 :: p, .seq _ x => o7 p x
 | 0 :: p, .cond _ x _ => o7 p x
 | 1 :: p, .cond _ _ x => o7 p x
 | 0 :: p, .block _ x => o7 p x
 | 0 :: p, .loop x => o7 p x
 | _, _ => .skip
def d5q : Code -> List Oper
 | .region _ ops _ => ops.toList
 | _ => []
theorem a7E (c : Code) : o7 [] c = c := by cases c <;> rfl
theorem a1A : ∀ p, o7 p .skip = .skip
 | [] => rfl
 | 0 :: p => rfl
 | 1 :: p => rfl
 | (n + 2) :: p => rfl
theorem N6 (q : List Nat) : ∀ (p : List Nat) (c : Code), o7 (p ++ q) c = o7 q (o7 p c)
 | [], c => rfl
 | 0 :: p, c => by cases c <;> first | exact N6 q p _ | exact (a1A q).symm
 | 1 :: p, c => by cases c <;> first | exact N6 q p _ | exact (a1A q).symm
 | (n + 2) :: p, c => by cases c <;> exact (a1A q).symm
def d5n : Code -> Bool
 | .seq _ _ => true
 | _ => false
def d6O : Code -> Bool
 | .loop _ => true
 | _ => false
def d5w : Code -> Option Nat
 | .block id _ => some id
 | _ => none
def d5z : Code -> Option Nat
 | .exit id => some id
 | _ => none
def d5u : Code -> Option Operand
 | .cond c _ _ => some c
 | _ => none
def d6x : Code -> Bool
 | .skip => true
 | _ => false
def d6Q : Code -> Bool
 | .ret => true
 | _ => false
def c3e : Code -> Option (List Oper × Bool)
 | .region _ ops d => some (ops.toList, d)
 | _ => none
section
variable {c : Code} {R : Exit -> Act -> World -> Prop}
theorem a0G (p : List Nat) (h : d5n (o7 p c) = true) (h2 : (o7 (p ++ [0]) c).wp P (Exit.then ((o7 (p ++ [1]) c).wp P R) R) a w) : (o7 p c).wp P R a w := by
 rw [N6, N6] at h2
 cases hx : o7 p c <;> rw [hx] at h <;> first | (cases h; done) | skip
 rw [hx] at h2
 exact wp_seq h2
theorem b0T (p : List Nat) (id : Nat) (h : d5w (o7 p c) = some id) (h2 : (o7 (p ++ [0]) c).wp P (Exit.inBlock id R) a w) : (o7 p c).wp P R a w := by
 rw [N6] at h2
 cases hx : o7 p c <;> rw [hx] at h <;> first | (cases h; done) | skip
 rw [hx] at h2
 simp only [d5w, Option.some.injEq] at h; subst h
 exact wp_block h2
theorem b0f (p : List Nat) (h : d6O (o7 p c) = true) (I : Nat -> Act -> World -> Prop) (n : Nat) (h0 : I n a w) (round : ∀ n a w, I n a w -> (o7 (p ++ [0]) c).wp P (Exit.then (fun a' w' => ∃ m, m < n ∧ I m a' w') R) a w) : (o7 p c).wp P R a w := by
 rw [N6] at round
 cases hx : o7 p c <;> rw [hx] at h <;> first | (cases h; done) | skip
 rw [hx] at round
 exact b6o I n h0 round
theorem a2s (p : List Nat) (x : Operand) (h : d5u (o7 p c) = some x) {b : Bool} (hb : a.eval x = .bool b) (hT : b = true -> (o7 (p ++ [0]) c).wp P R a w) (hF : b = false -> (o7 (p ++ [1]) c).wp P R a w) : (o7 p c).wp P R a w := by
 rw [N6] at hT hF
 cases hx : o7 p c <;> rw [hx] at h <;> first | (cases h; done) | skip
 rw [hx] at hT hF
 simp only [d5u, Option.some.injEq] at h; subst h
 exact wp_cond_split hb hT hF
theorem a4V (p : List Nat) (id : Nat) (h : d5z (o7 p c) = some id) (h2 : R (.exit id) a w) : (o7 p c).wp P R a w := by
 cases hx : o7 p c <;> rw [hx] at h <;> first | (cases h; done) | skip
 simp only [d5z, Option.some.injEq] at h; subst h
 exact wp_exit h2
theorem a2r (p : List Nat) (h : d6x (o7 p c) = true) (h2 : R .normal a w) : (o7 p c).wp P R a w := by
 cases hx : o7 p c <;> rw [hx] at h <;> first | (cases h; done) | skip
 exact wp_skip h2
theorem d5C (p : List Nat) (h : d6Q (o7 p c) = true) (h2 : R .ret a w) : (o7 p c).wp P R a w := by
 cases hx : o7 p c <;> rw [hx] at h <;> first | (cases h; done) | skip
 exact wp_ret h2
theorem d2F (p : List Nat) {l : List Oper} (h : c3e (o7 p c) = some (l, false)) (h2 : wpList P l.toArray R l a w) : (o7 p c).wp P R a w := by
 cases hx : o7 p c <;> rw [hx] at h <;> first | (cases h; done) | skip
 simp only [c3e, Option.some.injEq, Prod.mk.injEq] at h; obtain ⟨rfl, rfl⟩ := h
 exact wp_region_list (by simpa using h2)
theorem Plc.seqP (h : Plc P N ok tl H a w E) (p : List Nat) (hs : d5n (o7 p c) = true) {l : List Ann} {ac : AC} (hc : b0 P N (o7 (p ++ [0]) c) l = some (ac, [])) (hr : ∀ p ∈ H.rs, XK <= p.1) (ts : List Nat) (m : CAnn) {tl' : List (Nat × Val)} {H' : Hp} (hQ : ex P ac [] (C9 ts m tl' H') (lAS tl H))
  (hR : ∀ a' w' ok' E', Plc P N ok' tl' H' a' w' E' -> Adv w ok E w' ok' E' -> (o7 (p ++ [1]) c).wp P R a' w') : (o7 p c).wp P R a w :=
 a0G p hs (h.code1 hc hr ts m hQ hR)
theorem Plc.regMk (h : Plc P N ok tl H a w E) (p : List Nat) {l A B : List Oper} {o : Oper} (hreg : c3e (o7 p c) = some (l, false)) (hl : l = A ++ o :: B) {gsA gsB : List GI} (hA : A.mapM (l7 P N [] l.toArray) = some gsA) (hB : B.mapM (l7 P N [] l.toArray) = some gsB)
  {d f : Nat} {caps : Array Operand} (ho : o.op = .makeFunc (.func f) #[] caps) (hgd : o.guard = none) (hdst : o.dst = some d) (hd : d < N) (hr : ∀ p ∈ H.rs, XK <= p.1)
  (ts1 : List Nat) (m1 : CAnn) {tl1 : List (Nat × Val)} {H1 : Hp} (hQ1 : ex P (.reg false gsA none) [] (C9 ts1 m1 tl1 H1) (lAS tl H)) (hr1 : ∀ p ∈ H1.rs, XK <= p.1)
  (ts2 : List Nat) (m2 : CAnn) {tl2 : Value -> List (Nat × Val)} {H2 : Value -> Hp} (hQ2 : ∀ fv, ex P (.reg false gsB none) [] (C9 ts2 m2 (tl2 fv) (H2 fv)) (lAS ((d, .one (.g fv)) :: tl1) H1))
  (hR : ∀ a1 w1 ok1 E1, Plc P N ok1 tl1 H1 a1 w1 E1 -> Adv w ok E w1 ok1 E1 -> ∀ fv, fv = .func (.func f) #[] (caps.map a1.eval) -> ∀ a' w' ok' E', Plc P N ok' (tl2 fv) (H2 fv) a' w' E' -> Adv w1 ok1 E1 w' ok' E' -> R .normal a' w') : (o7 p c).wp P R a w := by
 refine d2F p hreg ?_
 have e : wpList P l.toArray R l a w = wpList P l.toArray R (A ++ o :: B) a w := by rw [<- hl]
 rw [e]
 refine h.ops1 hA hr ts1 m1 hQ1 fun a1 w1 ok1 E1 h1 hA1 => ?_
 refine h1.mkfn ho hgd hdst hd fun h2 => ?_
 have e2 : B = B ++ [] := by simp
 rw [e2]
 refine h2.ops1 hB hr1 ts2 m2 (hQ2 _) fun a' w' ok' E' h3 hA3 => ?_
 exact hR a1 w1 ok1 E1 h1 hA1 _ rfl a' w' ok' E' h3 hA3
end
end
attribute [go_sem] b9b c5I b7J
attribute [irreducible] o7
section
variable {P : Program} {N : Nat} {ok ok' ok'' : Nat -> Prop} {tl tl' : List (Nat × Val)} {H H' : Hp} {a a' : Act} {w w' w'' : World} {E E' E'' : Env}
def a7p (k : Nat) (u : Value) : Cel -> Cel
 | .mp j => if j = k then .g u else .mp j
 | .ow j ver => if j = k then .any else .ow j ver
 | .op j ver i off => if j = k then .any else .op j ver i off
 | .os j ver lo => if j = k then .any else .os j ver lo
 | .ws j ver lo hi => if j = k then .any else .ws j ver lo hi
 | .fn _ _ => .any
 | c => c
def d5t (k : Nat) (u : Value) : Val -> Val
 | .one c => .one (a7p k u c)
 | .ag ds => .ag (ds.map (a7p k u))
 | _ => .any
theorem P6 {k : Nat} {u : Value} {base : Nat} (hk : ∀ (ver z : Nat) (u' : Value), E.rm k = some (ver, z, u') -> u' = u) {c : Cel} {v : Value} (h : CRel0 w ok base E c v) : CRel0 w ok base (E.delR k) (a7p k u c) v := by
 have hone := h.oneC
 cases c with
 | mp j =>
  simp only [a7p]
  split
  ·rename_i e; subst e
   obtain ⟨_, ver', u', hr, rfl⟩ := h
   have := hk _ _ _ hr; subst this
   exact ⟨rfl, hone⟩
  ·rename_i e
   obtain ⟨a1, ver', u', hr, rest⟩ := h
   exact ⟨a1, ver', u', by simp [Env.delR, e, hr], rest⟩
 | ow j ver =>
  simp only [a7p]
  split
  ·exact hone
  ·rename_i e
   obtain ⟨a1, ver', z, u', hr, rest⟩ := h
   exact ⟨a1, ver', z, u', by simp [Env.delR, e, hr], rest⟩
 | op j ver i off =>
  simp only [a7p]
  split
  ·exact hone
  ·rename_i e
   obtain ⟨a1, ver', z, u', hr, rest⟩ := h
   exact ⟨a1, ver', z, u', by simp [Env.delR, e, hr], rest⟩
 | os j ver lo =>
  simp only [a7p]
  split
  ·exact hone
  ·rename_i e
   obtain ⟨a1, ver', z, u', hr, rest⟩ := h
   exact ⟨a1, ver', z, u', by simp [Env.delR, e, hr], rest⟩
 | ws j ver lo hi =>
  simp only [a7p]
  split
  ·exact hone
  ·rename_i e
   obtain ⟨a1, ver', z, u', hr, rest⟩ := h
   exact ⟨a1, ver', z, u', by simp [Env.delR, e, hr], rest⟩
 | fn f caps => exact h.elim
 | _ => exact h
theorem d0y {k : Nat} {u : Value} {base : Nat} (hk : ∀ (ver z : Nat) (u' : Value), E.rm k = some (ver, z, u') -> u' = u) {c : Cel} {v : Value} (h : CRel w ok base E c v) : CRel w ok base (E.delR k) (a7p k u c) v := by
 cases c with
 | fn f caps => obtain ⟨us, h1, _⟩ := h; subst h1; show Value.oneCell' _ = true; rfl
 | g u => exact (P6 hk (c := .g u) h).toC
 | sl fr z es => exact (P6 hk (c := .sl fr z es) h).toC
 | ep cs => exact (P6 hk (c := .ep cs) h).toC
 | bx j off => exact (P6 hk (c := .bx j off) h).toC
 | ow j ver => exact (P6 hk (c := .ow j ver) h).toC
 | op j ver i off => exact (P6 hk (c := .op j ver i off) h).toC
 | os j ver lo => exact (P6 hk (c := .os j ver lo) h).toC
 | ws j ver lo hi => exact (P6 hk (c := .ws j ver lo hi) h).toC
 | mp j => exact (P6 hk (c := .mp j) h).toC
 | fm kc es => exact (P6 hk (c := .fm kc es) h).toC
 | any => exact (P6 hk (c := .any) h).toC
theorem c1F {k : Nat} {u : Value} {base : Nat} (hk : ∀ (ver z : Nat) (u' : Value), E.rm k = some (ver, z, u') -> u' = u) {ds : List Cel} {us : List Value} (h : CsRel w ok base E ds us) : CsRel w ok base (E.delR k) (ds.map (a7p k u)) us := by
 refine ⟨by simpa using h.1, fun i c v h1 h2 => ?_⟩
 rw [List.getElem?_map] at h1
 cases hi : ds[i]? with
 | none => rw [hi] at h1; cases h1
 | some c0 => rw [hi] at h1; simp at h1; subst h1; exact d0y hk (h.2 i c0 v hi h2)
theorem Plc.forget (h : Plc P N ok tl H a w E) (k : Nat) {r : Row} (hr : f7 H.rs k = some r) (hz : r.z = 0) :
  ∃ b es clock, w.heap[b]? = some (.map es clock) ∧ es.size = r.es.length ∧ ¬ok b ∧ ¬(E.delR k).own b ∧ E.own b ∧
   Plc P N ok (tl.map fun p => (p.1, d5t k (.map (some b)) p.2)) ⟨H.bs.map (fun p => (p.1, p.2.map (a7p k (.map (some b))))), Go.Ai.delR k H.rs⟩ a w (E.delR k) ∧ Adv w ok E w ok (E.delR k) := by
 obtain ⟨r1, r2, u, vs, r3, r4, r5⟩ := h.h.rw k r hr
 rcases r4 with ⟨h0, _⟩ | ⟨_, b, es, clock, rfl, _, hb, hsz, _⟩
 ·omega
 have hown : E.own b := .inr ⟨k, _, _, _, r3, rfl⟩
 have hk : ∀ (ver z : Nat) (u' : Value), E.rm k = some (ver, z, u') -> u' = .map (some b) := fun ver z u' h1 => by
  grind
 refine ⟨b, es, clock, hb, hsz, h.no b hown, fun ho => ?_, hown, ?_, ⟨Grew.refl _ _, fun b _ h => h, fun b hb => .inr ?_⟩, fun j g' _ h1 => h1, fun _ _ _ h1 => (Env.delR_rm h1).2⟩
 ·rcases ho with ⟨j, hj⟩ | ⟨j, ver, z, u', hj, hu⟩
  ·exact h.h.gr j b k _ _ _ hj r3 rfl
  ·obtain ⟨e1, e2⟩ := Env.delR_rm hj
   exact e1 (h.h.rr j ver z u' k _ _ _ b e2 r3 hu rfl)
 rotate_left
 ·rcases hb with hj | ⟨j, ver, z, u', hj, hu⟩
  ·exact .inl hj
  ·exact .inr ⟨j, ver, z, u', (Env.delR_rm hj).2, hu⟩
 refine ⟨⟨⟨fun j ds hj => ?_, fun j hj => ?_, fun j r0 hj => ?_, fun j hj => ?_, h.h.ginj, fun j g' k' ver z u h1 h2 => h.h.gr j g' k' ver z u h1 (Env.delR_rm h2).2, fun j ver z u j' ver' z' u' b h1 h2 h3 h4 => h.h.rr j ver z u j' ver' z' u' b (Env.delR_rm h1).2 (Env.delR_rm h2).2 h3 h4⟩, fun b hb ho => ?_, h.ty, h.tab⟩, h.size, h.nx, h.defers, fun t => ?_⟩
 ·rw [show f7 (H.bs.map fun p => (p.1, p.2.map (a7p k (.map (some b))))) j = _ from X4 (fun ds => ds.map (a7p k (.map (some b)))) H.bs j] at hj
  cases hx : f7 H.bs j with
  | none => rw [hx] at hj; cases hj
  | some ds0 =>
   rw [hx] at hj; simp at hj; subst hj
   obtain ⟨g', cur', ty', h1, h2, h3⟩ := h.h.bx j ds0 hx
   exact ⟨g', cur', ty', h1, h2, c1F hk h3⟩
 ·rw [show f7 (H.bs.map fun p => (p.1, p.2.map (a7p k (.map (some b))))) j = _ from X4 (fun ds => ds.map (a7p k (.map (some b)))) H.bs j] at hj
  exact h.h.bxn j (by simpa using hj)
 ·rw [show f7 (Go.Ai.delR k H.rs) j = _ from a1d k H.rs j] at hj
  split at hj
  ·cases hj
  ·rename_i e
   obtain ⟨h1, h2, u, vs', h3, h4, h5⟩ := h.h.rw j r0 hj
   exact ⟨h1, h2, u, vs', by simp [Env.delR, e, h3], h4, h5⟩
 ·rw [show f7 (Go.Ai.delR k H.rs) j = _ from a1d k H.rs j] at hj
  simp only [Env.delR]
  split at hj
  ·rename_i e; rw [if_pos e]
  ·rename_i e; rw [if_neg e]; exact h.h.rwn j hj
 ·rcases hb with hj | ⟨j, ver, z, u', hj, hu⟩
  ·exact h.no b (.inl hj) ho
  ·exact h.no b (.inr ⟨j, ver, z, u', (Env.delR_rm hj).2, hu⟩) ho
 ·rw [W2 (d5t k (.map (some b))) rfl]
  have ht := h.tm t
  revert ht
  generalize m7 tl t = x
  generalize a.tmps.getD t undef = v
  intro ht
  cases ht with
  | one h1 => exact .one (d0y hk h1)
  | ag h1 => exact .ag (c1F hk h1)
  | tu => exact .any
  | any => exact .any
theorem Plc.other (h : Plc P N ok tl H a w E) (hs : w'.heap.size = w.heap.size) (hw : ∀ b, ok b ∨ E.own b -> w'.heap[b]? = w.heap[b]?) (ha : a'.tmps.size = a.tmps.size) (hd : a'.defers = a.defers) (ht : ∀ p ∈ tl, a'.tmps.getD p.1 undef = a.tmps.getD p.1 undef) : Plc P N ok tl H a' w' E := by
 have hk : Keeps ok w w' := ⟨by omega, fun b _ ho => hw b (.inl ho)⟩
 refine ⟨⟨⟨fun k cs hk1 => ?_, h.h.bxn, fun k r0 hk1 => ?_, h.h.rwn, h.h.ginj, h.h.gr, h.h.rr⟩, h.no, fun k g h1 h2 => ?_, ?_⟩, by rw [ha]; exact h.size, h.nx, by rw [hd]; exact h.defers, fun t => ?_⟩
 ·obtain ⟨g, cur, ty, h1, h2, h3⟩ := h.h.bx k cs hk1
  exact ⟨g, cur, ty, h1, (hw g (.inr (.inl ⟨k, h1⟩))).trans h2, h3.move hk (fun _ _ h => h) (by omega) (.refl E)⟩
 ·obtain ⟨h1, h2, u, vs', h3, h4, h5⟩ := h.h.rw k r0 hk1
  exact ⟨h1, h2, u, vs', h3, h4.of_block (fun b hb => hw b (.inr (.inr ⟨k, _, _, _, h3, hb⟩))), h5.move hk (fun _ _ h => h) (by omega)⟩
 ·obtain ⟨cur, T, h3, h4⟩ := h.ty k g h1 h2
  exact ⟨cur, T, (hw g (.inr (.inl ⟨k, h2⟩))).trans h3, h4⟩
 ·obtain ⟨W, h1, h2, h3⟩ := h.tab
  exact ⟨W, h1, by omega, fun b hb => ⟨(h3 b hb).1, (hw b (.inl (h3 b hb).1)).trans (h3 b hb).2⟩⟩
 ·have h1 := h.tm t
  by_cases hx : t ∈ tl.map (·.1)
  ·obtain ⟨p, hp, rfl⟩ := List.mem_map.1 hx
   rw [ht p hp]
   exact h1.move hk (fun _ _ h => h) (by omega) (.refl E)
  ·have : m7 tl t = .any := by
    clear h1 ht h
    induction tl with
    | nil => rfl
    | cons q tl ih =>
     simp only [List.map_cons, List.mem_cons, not_or] at hx
     simp only [m7]; rw [if_neg hx.1]; exact ih hx.2
   rw [this]; exact .any
def Env.addR (E : Env) (k : Nat) (u : Value) : Env := ⟨E.gm, fun j => if j = k then some (0, 0, u) else E.rm j⟩
theorem Plc.adopt (h : Plc P N ok tl H a w E) (k : Nat) (hk : f7 H.rs k = none) {b clock kc : Nat} {es : Array MapEntry} {m : List (List Cel)} (hb : w.heap[b]? = some (.map es clock)) (hno : ¬ok b) (hown : ¬E.own b) (hlen : es.size = m.length) (hm : a9H m)
  (hr : RRel w ok w.heap.size m.flatten (es.toList.map fun e => [e.key, a0z e.val]).flatten) (hks : ∀ e ∈ es.toList, l8 kc e.key = true ∧ vOk kc e.val) : Plc P N ok tl ⟨H.bs, (k, ⟨0, kc, 0, m⟩) :: H.rs⟩ a w (E.addR k (.map (some b))) := by
 have hrn : E.rm k = none := h.h.rwn k hk
 have hle : EnvLe E (E.addR k (.map (some b))) := ⟨fun _ _ h => h, fun j ver z u hj => ⟨ver, u, by simp only [Env.addR]; rw [if_neg (fun e => by subst e; rw [hrn] at hj; cases hj)]; exact hj, Nat.le_refl _, fun _ => rfl⟩⟩
 have hrm : ∀ {j : Nat} {x : Nat × Nat × Value}, (E.addR k (.map (some b))).rm j = some x -> (j = k ∧ x = (0, 0, .map (some b))) ∨ E.rm j = some x := fun {j x} hj => by
  simp only [Env.addR] at hj
  all_goals grind
 refine ⟨⟨⟨fun j cs hj => ?_, h.h.bxn, fun j r0 hj => ?_, fun j hj => ?_, h.h.ginj, fun j g k' ver z u h1 h2 => ?_, fun j ver z u j' ver' z' u' b' h1 h2 h3 h4 => ?_⟩, fun b' hb' ho => ?_, h.ty, h.tab⟩, h.size, h.nx, h.defers, fun t => (h.tm t).move (.refl _ w) (fun _ _ h => h) (Nat.le_refl _) hle⟩
 ·obtain ⟨g, cur, ty, h1, h2, h3⟩ := h.h.bx j cs hj
  exact ⟨g, cur, ty, h1, h2, h3.move (.refl _ w) (fun _ _ h => h) (Nat.le_refl _) hle⟩
 ·simp only [f7] at hj
  split at hj
  ·rename_i e; subst e
   injection hj with hj; subst hj
   exact ⟨fun _ => rfl, ⟨fun h0 => by simp at h0, fun _ => hm⟩, .map (some b), _, by simp [Env.addR], .inr ⟨rfl, b, es, clock, rfl, Nat.zero_le _, hb, hlen, rfl, hks⟩, hr⟩
  ·rename_i e
   obtain ⟨h1, h2, u, vs', h3, h4, h5⟩ := h.h.rw j r0 hj
   exact ⟨h1, h2, u, vs', by simp only [Env.addR]; rw [if_neg e]; exact h3, h4, h5⟩
 ·simp only [f7] at hj
  split at hj
  ·cases hj
  ·rename_i e
   simp only [Env.addR]; rw [if_neg e]; exact h.h.rwn j hj
 ·rcases hrm h2 with ⟨rfl, h3⟩ | h3
  ·simp only [Prod.mk.injEq] at h3
   obtain ⟨_, _, rfl⟩ := h3
   intro hu; simp only [u6, Option.some.injEq] at hu; subst hu
   exact hown (.inl ⟨j, h1⟩)
  ·exact h.h.gr j g k' ver z u h1 h3
 ·rcases hrm h1 with ⟨rfl, e1⟩ | e1 <;> rcases hrm h2 with ⟨rfl, e2⟩ | e2
  ·rfl
  ·simp only [Prod.mk.injEq] at e1
   obtain ⟨_, _, rfl⟩ := e1
   simp only [u6, Option.some.injEq] at h3; subst h3
   exact absurd (.inr ⟨j', _, _, _, e2, h4⟩) hown
  ·simp only [Prod.mk.injEq] at e2
   obtain ⟨_, _, rfl⟩ := e2
   simp only [u6, Option.some.injEq] at h4; subst h4
   exact absurd (.inr ⟨j, _, _, _, e1, h3⟩) hown
  ·exact h.h.rr j ver z u j' ver' z' u' b' e1 e2 h3 h4
 ·rcases hb' with hg | ⟨j, ver, z, u, h1, h2⟩
  ·exact h.no b' (.inl hg) ho
  ·rcases hrm h1 with ⟨rfl, e1⟩ | e1
   ·simp only [Prod.mk.injEq] at e1
    obtain ⟨_, _, rfl⟩ := e1
    simp only [u6, Option.some.injEq] at h2; subst h2
    exact hno ho
   ·exact h.no b' (.inr ⟨j, ver, z, u, e1, h2⟩) ho
theorem Plc.box1 {k : Nat} {cs cs2 : List Cel} {rs : List (Nat × Row)} (h : Plc P N ok tl ⟨[(k, cs)], rs⟩ a w E) (hr : ∀ cur, CsRel w ok w.heap.size E cs cur -> CsRel w ok w.heap.size E cs2 cur) : Plc P N ok tl ⟨[(k, cs2)], rs⟩ a w E := by
 refine ⟨⟨⟨fun j ds hj => ?_, fun j hj => ?_, h.h.rw, h.h.rwn, h.h.ginj, h.h.gr, h.h.rr⟩, h.no, h.ty, h.tab⟩, h.size, h.nx, h.defers, h.tm⟩
 ·simp only [f7] at hj
  split at hj
  ·rename_i e; subst e
   injection hj with hj; subst hj
   obtain ⟨g, cur, ty, h1, h2, h3⟩ := h.h.bx j cs (by simp [f7])
   grind
  ·cases hj
 ·simp only [f7] at hj
  split at hj
  ·cases hj
  ·rename_i e; exact h.h.bxn j (by simp [f7, e])
theorem Plc.code1X (h : Plc P N ok tl H a w E) {c : Code} {l : List Ann} {ac : AC} (hc : b0 P N c l = some (ac, [])) (hr : ∀ p ∈ H.rs, XK <= p.1) (ts : List Nat) (m : CAnn) {tl' : List (Nat × Val)} {H' : Hp} (hQ : ex P ac [] (C9 ts m tl' H') (lAS tl H))
  {R : Exit -> Act -> World -> Prop} (hR : ∀ a' w' ok' E', Plc P N ok' tl' H' a' w' E' -> Adv w ok E w' ok' E' -> (∀ b, ok' b -> w.heap.size <= b ∨ ok b) -> R .normal a' w') : c.wp P R a w := by
 have hT := h.tabs
 refine wp_mono (y8 c l [] ac hc _ _ _ _ _ (h.st hr) hQ) fun e a' w' hq => ?_
 cases e with
 | normal => obtain ⟨s', E', hs, rfl, rfl⟩ := hq; obtain ⟨h1, h2⟩ := h.of_st hs ts m; exact hR a' w' _ _ h1 h2 fun b hb => hb.2.2
 | ret => obtain ⟨s', E', hs, hq⟩ := hq; exact hq.elim
 | exit id => obtain ⟨s', E', hs, hq⟩ := hq; exact hq.elim
 | _ => exact hq.elim
theorem Plc.seqPX {c : Code} {R : Exit -> Act -> World -> Prop} (h : Plc P N ok tl H a w E) (p : List Nat) (hs : d5n (o7 p c) = true) {l : List Ann} {ac : AC} (hc : b0 P N (o7 (p ++ [0]) c) l = some (ac, [])) (hr : ∀ p ∈ H.rs, XK <= p.1) (ts : List Nat) (m : CAnn) {tl' : List (Nat × Val)} {H' : Hp} (hQ : ex P ac [] (C9 ts m tl' H') (lAS tl H))
  (hR : ∀ a' w' ok' E', Plc P N ok' tl' H' a' w' E' -> Adv w ok E w' ok' E' -> (∀ b, ok' b -> w.heap.size <= b ∨ ok b) -> (o7 (p ++ [1]) c).wp P R a' w') : (o7 p c).wp P R a w :=
 a0G p hs (h.code1X hc hr ts m hQ hR)
end
end Go.Ai

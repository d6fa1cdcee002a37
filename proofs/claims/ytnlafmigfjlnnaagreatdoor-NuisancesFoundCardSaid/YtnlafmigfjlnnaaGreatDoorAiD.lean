/- The abstract layer. -/
import Derived.Calls
import Derived.Orders
import Derived.Test.YtnlafmigfjlnnaaGreatDoorAiB
set_option linter.all false
namespace Go.Ai
open Go
section
variable {P : Program} {w0 w w' : World} {okA : Nat -> Prop} {ext : Ext} {N : Nat} {s : AS} {a : Act} {E : Env} {o : Oper} {K : Act -> World -> Prop} {Q : Exit -> Act -> World -> Prop} [hT : b1K P w0 okA ext]
def a0P : Ins -> Bool
 | .call _ _ => true
 | .callx _ _ => true
 | .callm _ _ _ => true
 | .pick _ _ _ => true
 | _ => false
theorem V8 {t : TypeId} {p : TypeId × TypeInfo} (h : u3 P t = some p) : P.underlying t = some (.slice p.1) ∧ P.info? p.1 = some p.2 := by
 unfold u3 at h
 split at h
 ·rename_i e hu
  simp only [Option.map_eq_some_iff] at h
  grind
 ·cases h
theorem b8S {t : TypeId} {p : Bool × Nat} (h : d0M P t = some p) : ∃ d i, P.underlying t = some d ∧ P.info? t = some i ∧ p = (K7 d, i.size) := by
 unfold d0M at h
 all_goals grind
theorem b3Z (h : St w0 okA ext N s a w E) {i : Ins} (hc : q8 P o = some i) (hn : a0P i = false) (hd : ∀ k, o.dst = some k -> k < N)
  (hK : q6 (c9 o.dst i s) (n7 w0 okA ext N K)) : o.wp P a w K Q := by
 unfold q8 at hc
 split at hc
 case h_1 x ho => simp only [Option.map_eq_some_iff] at hc; obtain ⟨y, hy, rfl⟩ := hc; exact d5x h hy (.inl ho) hd hK
 case h_2 x ho => simp only [Option.map_eq_some_iff] at hc; obtain ⟨y, hy, rfl⟩ := hc; exact d5x h hy (.inr ho) hd hK
 case h_3 c x y ho => split at hc <;> first | (injection hc with hc; subst hc; cases hn) | cases hc
 case h_4 t ho =>
  simp only [Option.map_eq_some_iff] at hc
  obtain ⟨z, hz, rfl⟩ := hc
  exact c4x h hz ho hd hK
 case h_5 t x ho => simp only [Option.map_eq_some_iff] at hc; obtain ⟨y, hy, rfl⟩ := hc; exact d5j h hy ho hd hK
 case h_6 t parts ho =>
  split at hc
  ·rename_i z pl ps hz hpl hps; injection hc with hc; subst hc; exact c5u h hz hps hpl ho hd hK
  ·cases hc
 case h_7 t len parts ho =>
  split at hc
  ·rename_i e inf ps he hps
   split at hc
   ·rename_i hcond; injection hc with hc; subst hc
    obtain ⟨hu, hi⟩ := V8 he
    exact b6y h hu hi hps hcond.1 hcond.2.1 hcond.2.2.1 hcond.2.2.2.1 hcond.2.2.2.2 ho hd hK
   ·cases hc
  ·cases hc
 case h_8 t x ho =>
  split at hc
  ·rename_i ag n y ht hy; injection hc with hc; subst hc
   obtain ⟨d, inf, hu, hi, he⟩ := b8S ht
   simp only [Prod.mk.injEq] at he; obtain ⟨rfl, rfl⟩ := he
   exact d2u h hy hu hi ho hd hK
  ·cases hc
 case h_9 t x v ho =>
  split at hc
  ·rename_i ag n y y' ht hy hy'; injection hc with hc; subst hc
   obtain ⟨d, inf, hu, hi, he⟩ := b8S ht
   simp only [Prod.mk.injEq] at he; obtain ⟨_, rfl⟩ := he
   exact c6j h hy hy' hi ho hd hK
  ·cases hc
 case h_10 x ho => simp only [Option.map_eq_some_iff] at hc; obtain ⟨y, hy, rfl⟩ := hc; exact b6I h hy ho hd hK
 case h_11 op t x y t' ho =>
  split at hc
  ·rename_i y' y'' hy hy'
   split at hc
   ·rename_i neg agg ks he; injection hc with hc; subst hc; exact d4k h hy hy' he ho hd hK
   ·injection hc with hc; subst hc; exact d4a h hy hy' ho hd hK
  ·cases hc
 case h_12 op t x ho => simp only [Option.map_eq_some_iff] at hc; obtain ⟨y, hy, rfl⟩ := hc; exact d6p h hy ho hd hK
 case h_13 src dst x ho =>
  split at hc
  ·rename_i d k y hs hdst hy; injection hc with hc; subst hc; exact c8Y h hy hs hdst ho hd hK
  ·cases hc
 case h_14 f first caps ho =>
  split at hc
  ·rename_i cs hcs
   split at hc
   ·rename_i hf; injection hc with hc; subst hc; exact d1W h hcs hf ho hd hK
   ·cases hc
  ·cases hc
 case h_15 t x lo hi ho =>
  split at hc
  ·rename_i e inf y he hy
   obtain ⟨hu, hi'⟩ := V8 he
   split at hc
   ·injection hc with hc; subst hc; exact b7h h hy hu hi' none none none none (.inl ⟨rfl, rfl⟩) (.inl ⟨rfl, rfl⟩) ho hd hK
   ·rename_i l; simp only [Option.map_eq_some_iff] at hc; obtain ⟨l', hl, rfl⟩ := hc
    exact b7h h hy hu hi' (some l) none (some l') none (.inr ⟨l, l', rfl, rfl, hl⟩) (.inl ⟨rfl, rfl⟩) ho hd hK
   ·rename_i l; simp only [Option.map_eq_some_iff] at hc; obtain ⟨l', hl, rfl⟩ := hc
    exact b7h h hy hu hi' none (some l) none (some l') (.inl ⟨rfl, rfl⟩) (.inr ⟨l, l', rfl, rfl, hl⟩) ho hd hK
   ·rename_i l m
    split at hc
    ·rename_i l' m' hl hm; injection hc with hc; subst hc
     exact b7h h hy hu hi' (some l) (some m) (some l') (some m') (.inr ⟨l, l', rfl, rfl, hl⟩) (.inr ⟨m, m', rfl, rfl, hm⟩) ho hd hK
    ·cases hc
  ·rename_i y _ hy
   split at hc
   ·rename_i hu; exact d0Z h hy hu lo hi hc ho hd hK
   ·cases hc
  ·cases hc
 case h_16 t x k ho =>
  split at hc
  ·rename_i f y hf hy
   split at hc
   ·rename_i inf hi
    split at hc
    ·cases hc
    ·rename_i hz; injection hc with hc; subst hc; exact c8H h hy hf hi hz ho hd hK
   ·cases hc
  ·cases hc
 case h_17 t x k ho => cases hc
 case h_18 t x i ho =>
  split at hc
  ·rename_i e inf y y' he hy hy'; injection hc with hc; subst hc
   obtain ⟨hu, hi⟩ := V8 he
   exact c7Z h hy hy' hu hi ho hd hK
  ·rename_i y y' _ hy hy'
   unfold a8x at hc
   split at hc
   ·rename_i n e hu
    simp only [Option.map_eq_some_iff] at hc; obtain ⟨inf, hi, rfl⟩ := hc
    exact d1k h hy hy' hu hi ho hd hK
   ·cases hc
  ·cases hc
 case h_19 t x i ho =>
  split at hc
  ·rename_i y y' hu hy hy'; injection hc with hc; subst hc; exact d4M h hy hy' hu ho hd hK
  ·cases hc
 case h_20 x i ho => simp only [Option.map_eq_some_iff] at hc; obtain ⟨y, hy, rfl⟩ := hc; exact d0h h hy ho hd hK
 case h_21 args ts ho =>
  split at hc
  ·rename_i x e hargs hu
   simp only [Option.map_eq_some_iff] at hc; obtain ⟨y, hy, rfl⟩ := hc
   simp only [Option.bind_eq_some_iff] at hu
   obtain ⟨t, ht, hu⟩ := hu
   have : args = #[x] := by apply Array.ext'; simpa using hargs
   subst this
   exact d5f h hy ht hu ho hd hK
  ·rename_i x hargs hu
   simp only [Option.map_eq_some_iff] at hc; obtain ⟨y, hy, rfl⟩ := hc
   simp only [Option.bind_eq_some_iff] at hu
   obtain ⟨t, ht, hu⟩ := hu
   have : args = #[x] := by apply Array.ext'; simpa using hargs
   subst this
   exact c9i h hy ht hu ho hd hK
  ·cases hc
 case h_22 args ts ho =>
  split at hc
  ·rename_i x y hargs
   split at hc
   ·rename_i x' y' hx hy; injection hc with hc; subst hc
    have : args = #[x, y] := by apply Array.ext'; simpa using hargs
    subst this
    exact d1C (mx := true) h hx hy ho hd hK
   ·cases hc
  ·cases hc
 case h_23 args ts ho =>
  split at hc
  ·rename_i x y hargs
   split at hc
   ·rename_i x' y' hx hy; injection hc with hc; subst hc
    have : args = #[x, y] := by apply Array.ext'; simpa using hargs
    subst this
    exact d1C (mx := false) h hx hy ho hd hK
   ·cases hc
  ·cases hc
 case h_24 args ts ho =>
  split at hc
  ·rename_i x y t t' hargs hts
   split at hc
   ·rename_i e inf x' y' he hx hy
    split at hc
    ·rename_i hcond; injection hc with hc; subst hc
     obtain ⟨rfl, _, hzero⟩ := hcond
     obtain ⟨hu, hi⟩ := V8 he
     have h1 : args = #[x, y] := by apply Array.ext'; simpa using hargs
     have h2 : ts = #[t, t] := by apply Array.ext'; simpa using hts
     subst h1; subst h2
     exact b6C h hx hy hu hi hzero ho hd hK
    ·cases hc
   ·cases hc
  ·cases hc
 case h_25 f args ts ho =>
  split at hc
  ·injection hc with hc; subst hc; split at hn <;> cases hn
  ·cases hc
 case h_26 args ts ho =>
  split at hc
  ·rename_i x t hargs hts
   split at hc
   ·rename_i e inf x' he hx
    split at hc
    ·rename_i z hz
     split at hc
     ·rename_i hzl; injection hc with hc; subst hc
      obtain ⟨hu, hi⟩ := V8 he
      have h1 : args = #[x] := by apply Array.ext'; simpa using hargs
      have h2 : ts = #[t] := by apply Array.ext'; simpa using hts
      subst h1; subst h2
      exact d3u h hx hu hi hz hzl ho hd hK
     ·cases hc
    ·cases hc
   ·cases hc
  ·cases hc
 case h_27 t l c ho =>
  split at hc
  ·rename_i e inf l' c' he hl hl2
   split at hc
   ·rename_i z hz
    split at hc
    ·rename_i hzl; injection hc with hc; subst hc
     obtain ⟨hu, hi⟩ := V8 he
     exact d3V h hl hl2 hu hi hz hzl ho hd hK
    ·cases hc
   ·cases hc
  ·cases hc
 case h_28 t ho =>
  simp only [Option.map_eq_some_iff] at hc; obtain ⟨p, hp, rfl⟩ := hc
  obtain ⟨kt, d, hu, hud, hk⟩ := a2C hp
  exact c8U h hu (.inl rfl) ho hd hK
 case h_29 t q n ho =>
  simp only [Option.map_eq_some_iff] at hc; obtain ⟨p, hp, rfl⟩ := hc
  obtain ⟨kt, d, hu, hud, hk⟩ := a2C hp
  exact c8U h hu (.inr ⟨_, _, rfl⟩) ho hd hK
 case h_30 t m k v ho =>
  split at hc
  ·rename_i p m' k' v' hp hm hk' hv; injection hc with hc; subst hc
   obtain ⟨kt, d, hu, hud, hk⟩ := a2C hp
   exact d2l h hm hk' hv hu hud hk (.inl ho) hd hK
  ·cases hc
 case h_31 t m k v ho =>
  split at hc
  ·rename_i p m' k' v' hp hm hk' hv; injection hc with hc; subst hc
   obtain ⟨kt, d, hu, hud, hk⟩ := a2C hp
   exact d2l h hm hk' hv hu hud hk (.inr ho) hd hK
  ·cases hc
 case h_32 t m k ok ho =>
  split at hc
  ·rename_i p m' k' hp hm hk'
   split at hc
   ·rename_i z hz; injection hc with hc; subst hc
    obtain ⟨kt, d, hu, hud, hk⟩ := a2C hp
    exact d3G h hm hk' hu hud hk hz (b7z hp hz) ho hd hK
   ·cases hc
  ·cases hc
 case h_33 args ts ho =>
  split at hc
  ·rename_i m k t t2 hargs hts
   split at hc
   ·rename_i p m' k' hp hm hk'; injection hc with hc; subst hc
    obtain ⟨kt, d, hu, hud, hk⟩ := a2C hp
    have h1 : args = #[m, k] := by apply Array.ext'; simpa using hargs
    have h2 : ts = #[t, t2] := by apply Array.ext'; simpa using hts
    subst h1; subst h2
    exact d2R h hm hk' hu hud hk ho hd hK
   ·cases hc
  ·cases hc
 case h_34 => cases hc
/-! ### the step with guards and calls -/
def a4K (P : Program) (s : AS) (d : Option Nat) (f : Val) (args : List Val) (T : AS -> Prop) : Prop :=
 match f with
 | .one (.fn f caps) => ∃ R, FC P f none ((args ++ caps.map Val.one).map s.view) R ∧ (∃ cs r, R cs r) ∧
   ∀ cs r, R cs r -> (P2 r = true ∨ (M8 r = true ∧ (args ++ caps.map Val.one).all W9 = true)) ∧ T (s.put d r)
 | _ => False
def a7s (P : Program) (s : AS) (d : Option Nat) (f : Val) (k : Nat) (rest : List Val) (T : AS -> Prop) : Prop :=
 match f, s.bx k with
 | .one (.fn f []), some cs => W1 k = false ∧ cs.all C8 = true ∧ rest.all W9 = true ∧ ∃ R, FC P f (some (cs.map s.viewC)) (rest.map s.view) R ∧ (∃ cs r, R cs r) ∧
   ∀ cs' r, R cs' r -> M8 r = true ∧ cs'.all C7 = true ∧ T ({ s with bx := upd s.bx k (some cs') }.put d r)
 | _, _ => False
def W7 (P : Program) (s : AS) (d : Option Nat) (f : Val) (args : List Val) (T : AS -> Prop) : Prop :=
 match args with
 | .one (.bx k 0) :: rest => a7s P s d f k rest T
 | _ => False
theorem a4p {l : List Operand} {ys : List Opd} (h : St w0 okA ext N s a w E) (hy : l.mapM opd = some ys) : ∀ (i : Nat) (x : Val) (u : Value), (ys.map s.ev)[i]? = some x -> (l.map a.eval)[i]? = some u -> VRel w (okE w0 okA E) w0.heap.size E x u := by
 intro i x u h1 h2
 rw [List.getElem?_map] at h1 h2
 cases hl : l[i]? with
 | none => rw [hl] at h2; cases h2
 | some p =>
  rw [hl] at h2; simp at h2; subst h2
  have h3 := Z7 hy hl
  cases hy' : ys[i]? with
  | none => rw [hy'] at h1; cases h1
  | some q =>
   rw [hy'] at h1 h3; simp at h1; subst h1
   exact l5 h h3.symm
theorem a0Y {f : FuncId} {us : List Value} {fo : Operand} {args : Array Operand} {ts : Array TypeId} (ho : o.op = .call { callee := .value fo, args, argTypes := ts }) (hf : a.eval fo = .func (.func f) #[] us.toArray) (hb : U5 P f) :
  (execOp a.eval o).run P w = .ok (.enter f (args.toList.map a.eval ++ us).toArray) w := by
 obtain ⟨fn, h1, h2, h3⟩ := hb
 have h4 : args.map a.eval ++ us.toArray = (args.toList.map a.eval ++ us).toArray := by apply Array.ext'; simp
 have h5 : ¬ fn.name = "runtime.NumGoroutine" := by simpa using h3
 have h6 : ¬ fn.body = none := by
  grind
 simp [execOp, ho, resolve, hf, Deferred.ofValue, invoke, callFunc, h1]
 grind
theorem a6Z (h : St w0 okA ext N s a w E) {fo : Operand} {args : Array Operand} {ts : Array TypeId} {fy : Opd} {ys : List Opd} (ho : o.op = .call { callee := .value fo, args, argTypes := ts }) (hf : opd fo = some fy) (hy : args.toList.mapM opd = some ys)
  (hd : ∀ k, o.dst = some k -> k < N) (hK : W7 P s o.dst (s.ev fy) (ys.map s.ev) (n7 w0 okA ext N K)) : o.wp P a w K Q := by
 have hrel := a4p h hy
 have hlen : ys.length = args.toList.length := F3 hy
 have hfr := l5 h hf
 have hsz := h.frame.size
 unfold W7 at hK
 split at hK
 ·rename_i k rest hargs
  unfold a7s at hK
  split at hK
  ·rename_i f cs hfv hs
   obtain ⟨hbk, hp1, hp2, R, hFC, _, hR⟩ := hK
   obtain ⟨us, hfe, hul, _⟩ := u9 hfr hfv
   have hus : us = [] := List.eq_nil_of_length_eq_zero (by simpa using hul.symm)
   subst hus
   obtain ⟨y0, ys', rfl⟩ : ∃ y0 ys', ys = y0 :: ys' := by cases ys with | nil => simp at hargs | cons y ys => exact ⟨y, ys, rfl⟩
   obtain ⟨p0, l', hl⟩ : ∃ p0 l', args.toList = p0 :: l' := by cases hal : args.toList with | nil => rw [hal] at hlen; simp at hlen | cons p l => exact ⟨p, l, rfl⟩
   simp only [List.map_cons, List.cons.injEq] at hargs
   obtain ⟨hy0, rfl⟩ := hargs
   rw [hl] at hrel hlen
   have h0 := hrel 0 _ _ rfl rfl
   rw [hy0] at h0
   obtain ⟨g, hg, hp⟩ := u9 h0 rfl
   obtain ⟨g', cur, ty, h1, h2, h3⟩ := h.bx k cs hs
   rw [hg] at h1; injection h1 with h1; subst h1
   have hrun := a0Y (P := P) (w := w) ho hfe hFC.1
   rw [hl] at hrun
   unfold Oper.wp
   rw [hrun, Oper.upon_enter]
   have hc := hFC.2 w (okE w0 okA E) g (l'.map a.eval) h.tab.1 (fun cs' hcs' => by
    simp only [Option.some.injEq] at hcs'; subst hcs'
    exact ⟨fun ho => ho.1 k hg, cur, ty, h2, a1O h3 hp1⟩) (by simp at hlen ⊢; omega) (fun i x u hx hu => by
    rw [List.getElem?_map] at hx
    cases hi : (ys'.map s.ev)[i]? with
    | none => rw [hi] at hx; cases hx
    | some x0 =>
     rw [hi] at hx; simp at hx; subst hx
     exact a2L (hrel (i + 1) x0 u (by simpa using hi) (by simpa using hu)) (List.all_eq_true.1 hp2 x0 (List.mem_of_getElem? hi)))
   have harr : ((if (some (cs.map s.viewC)).isSome then [Value.pointer (some ⟨g, 0, none⟩)] else []) ++ l'.map a.eval).toArray = ((p0 :: l').map a.eval ++ []).toArray := by simp [hp]
   rw [harr] at hc
   refine Calls.mono hc ?_
   rintro e w1 ⟨v, cs', r, rfl, hRr, hgr, hv, hbox⟩
   obtain ⟨hd1, hd2, hT⟩ := hR cs' r hRr
   obtain ⟨cur', ty', hw1, hcs'⟩ := hbox rfl
   have hgr' : w.grownBy w1 (some g) := hgr
   have hokn : ∀ b, w.heap.size <= b -> okE w0 okA E b := fun b hb => ⟨fun j hj => by have := h.glt hj; omega, fun j ver z u hj hu => by have := h.rlt hj hu; omega, .inl (Nat.le_trans hsz hb)⟩
   have hcs2 : CsRel w1 (okE w0 okA E) w0.heap.size E cs' cur'.toList := ⟨hcs'.1, fun i c u h4 h5 => Y1 h (hcs'.2 i c u h4 h5) (fun b hb _ => hokn b hb) (.inr ⟨List.all_eq_true.1 hd2 c (List.mem_of_getElem? h4), fun b hb => hb.1.elim (hokn b) id⟩)⟩
   have hst := h.boxTurn hg hgr' hw1 hcs2 (fun hk => by rw [hbk] at hk; cases hk)
   have hv2 := a5C (ok' := fun b => w.heap.size <= b ∨ okE w0 okA E b) h hv (fun b hb _ => hokn b hb) (.inr ⟨hd1, fun b hb => hb.elim (hokn b) id⟩)
   exact hT _ _ E (hst.put hv2 hd)
  ·exact hK.elim
 ·exact hK.elim
theorem a6s (h : St w0 okA ext N s a w E) {fo : Operand} {args : Array Operand} {ts : Array TypeId} {fy : Opd} {ys : List Opd} (ho : o.op = .call { callee := .value fo, args, argTypes := ts }) (hf : opd fo = some fy) (hy : args.toList.mapM opd = some ys)
  (hd : ∀ k, o.dst = some k -> k < N) (hK : a4K P s o.dst (s.ev fy) (ys.map s.ev) (n7 w0 okA ext N K)) : o.wp P a w K Q := by
 have hrel := a4p h hy
 have hlen : ys.length = args.toList.length := F3 hy
 have hfr := l5 h hf
 have hsz := h.frame.size
 unfold a4K at hK
 split at hK
 ·rename_i f caps hfv
  obtain ⟨R, hFC, _, hR⟩ := hK
  obtain ⟨us, hfe, hul, hcaps⟩ := u9 hfr hfv
  have hrun := a0Y (P := P) (w := w) ho hfe hFC.1
  unfold Oper.wp
  rw [hrun, Oper.upon_enter]
  have hall : ∀ (i : Nat) (x : Val) (u : Value), ((ys.map s.ev) ++ caps.map Val.one)[i]? = some x -> (args.toList.map a.eval ++ us)[i]? = some u -> VRel w (okE w0 okA E) w0.heap.size E x u := fun i x u hx hu => by
   rw [List.getElem?_append] at hx hu
   have h7 : (ys.map s.ev).length = (args.toList.map a.eval).length := by simpa using hlen
   rw [h7] at hx
   split at hx
   ·grind
   ·rename_i hlt; rw [if_neg hlt] at hu
    rw [List.getElem?_map] at hx
    cases hi : caps[i - (args.toList.map a.eval).length]? with
    | none => rw [hi] at hx; cases hx
    | some c0 =>
     rw [hi] at hx; simp at hx; subst hx
     have h8 := hcaps _ c0 u hi hu
     exact .one (by cases c0 <;> first | exact h8 | exact h8.elim)
  have hlen2 : ((ys.map s.ev ++ caps.map Val.one).map s.view).length = (args.toList.map a.eval ++ us).length := by simp at hlen ⊢; omega
  by_cases hpl : (ys.map s.ev ++ caps.map Val.one).all W9 = true
  ·have hc := hFC.2 w (okE w0 okA E) 0 (args.toList.map a.eval ++ us) h.tab.1 (fun cs h => by cases h) hlen2 (fun i x u hx hu => by
    rw [List.getElem?_map] at hx
    cases hi : (ys.map s.ev ++ caps.map Val.one)[i]? with
    | none => rw [hi] at hx; cases hx
    | some x0 =>
     rw [hi] at hx; simp at hx; subst hx
     exact a2L (hall i x0 u hi hu) (List.all_eq_true.1 hpl x0 (List.mem_of_getElem? hi)))
   refine Calls.mono hc ?_
   rintro e w1 ⟨v, cs', r, rfl, hRr, hgr, hv, _⟩
   obtain ⟨hcond, hT⟩ := hR cs' r hRr
   have hokn : ∀ b, w.heap.size <= b -> okE w0 okA E b := fun b hb => ⟨fun j hj => by have := h.glt hj; omega, fun j ver z u hj hu => by have := h.rlt hj hu; omega, .inl (Nat.le_trans hsz hb)⟩
   exact hT _ _ E (h.called hgr hv (hcond.imp id (fun h => ⟨h.1, fun b hb => hb.elim (hokn b) id⟩)) hd)
  ·have hc := hFC.2 w (fun _ => True) 0 (args.toList.map a.eval ++ us) h.tab.2 (fun cs h => by cases h) hlen2 (fun i x u hx hu => by
    rw [List.getElem?_map] at hx
    cases hi : (ys.map s.ev ++ caps.map Val.one)[i]? with
    | none => rw [hi] at hx; cases hx
    | some x0 =>
     rw [hi] at hx; simp at hx; subst hx
     exact b1r h (hall i x0 u hi hu) (fun _ _ => trivial) (fun _ _ _ _ _ _ _ _ => trivial) (fun _ _ _ _ => trivial))
   refine Calls.mono hc ?_
   rintro e w1 ⟨v, cs', r, rfl, hRr, hgr, hv, _⟩
   obtain ⟨hcond, hT⟩ := hR cs' r hRr
   exact hT _ _ E (h.called hgr hv (hcond.imp id (fun h => absurd h.2 hpl)) hd)
 ·exact hK.elim
end
end Go.Ai
namespace Go.Ai
open Go
structure HRel (w : World) (ok : Nat -> Prop) (base : Nat) (E : Env) (b : Nat -> Option (List Cel)) (r : Nat -> Option Row) : Prop where
 bx : ∀ k cs, b k = some cs -> ∃ g cur ty, E.gm k = some g ∧ w.heap[g]? = some (.cells cur ty (0, 0)) ∧ CsRel w ok base E cs cur.toList
 bxn : ∀ k, b k = none -> E.gm k = none
 rw : ∀ k r0, r k = some r0 -> (r0.z = 0 -> r0.ver = 0) ∧ rowOkZ r0.z r0.es ∧ ∃ u vs, E.rm k = some (r0.ver, r0.z, u) ∧ owns w 0 r0.E r0.z u r0.es.length vs ∧ RRel w ok base r0.es.flatten vs
 rwn : ∀ k, r k = none -> E.rm k = none
 ginj : ∀ k k' g, E.gm k = some g -> E.gm k' = some g -> k = k'
 gr : ∀ k g k' ver z u, E.gm k = some g -> E.rm k' = some (ver, z, u) -> (u6 u) ≠ some g
 rr : ∀ k ver z u k' ver' z' u' b, E.rm k = some (ver, z, u) -> E.rm k' = some (ver', z', u') -> (u6 u) = some b -> (u6 u') = some b -> k = k'
def Env.own (E : Env) (b : Nat) : Prop := (∃ k, E.gm k = some b) ∨ ∃ k ver z u, E.rm k = some (ver, z, u) ∧ (u6 u) = some b
def F9 (P : Program) (f : FuncId) (S : List Nat) (H : Hp) (args : List Val) (R : Hp -> Val -> Prop) : Prop :=
 U5 P f ∧ ∀ (w : World) (okA : Nat -> Prop) (E : Env) (vs : List Value), c5D P w okA ->
  HRel w okA w.heap.size E (f7 H.bs) (f7 H.rs) -> (∀ b, E.own b -> ¬ okA b) -> TyB (fun t => S9 P t = true) w E ->
  args.length = vs.length -> (∀ (i : Nat) (x : Val) (u : Value), args[i]? = some x -> vs[i]? = some u -> VRel w okA w.heap.size E x u) ->
  Calls P f vs.toArray w fun e w' => ∃ v H' r E', e = .returned v ∧ R H' r ∧ Grew E.own w w' ∧
   HRel w' (okE w okA E') w.heap.size E' (f7 H'.bs) (f7 H'.rs) ∧ VRel w' (okE w okA E') w.heap.size E' r v ∧
   (∀ k g g', E.gm k = some g -> E'.gm k = some g' -> g = g') ∧ (∀ k g, E'.gm k = some g -> w.heap.size <= g ∨ E.own g) ∧
   (∀ k ver z u b, E'.rm k = some (ver, z, u) -> (u6 u) = some b -> w.heap.size <= b ∨ ∃ ver' z' u', E.rm k = some (ver', z', u') ∧ (u6 u') = some b) ∧
   (∀ k r0, f7 H'.rs k = some r0 -> r0.ver = 0) ∧ (∀ k r0 r1, f7 H.rs k = some r0 -> f7 H'.rs k = some r1 -> r1.z = r0.z) ∧
   (∀ k ver ver' z z' u u', k ∈ S -> E.rm k = some (ver, z, u) -> E'.rm k = some (ver', z', u') -> u = u') ∧ (∀ k g, W1 k = true -> E.gm k = some g -> E'.gm k = some g -> ∃ cur T, w'.heap[g]? = some (.cells cur T (0, 0)) ∧ S9 P T = true)
abbrev FCM (P : Program) (f : FuncId) (H : Hp) (args : List Val) (R : Hp -> Val -> Prop) : Prop := F9 P f [] H args R
/-! ### a call that is handed boxes and rows -/
def AS.passC0 (s : AS) (m : CAnn) : Cel -> Cel
 | .g v => .g v
 | .sl _ z es => .sl false z es
 | .ep cs => .ep cs
 | .fm kc es => .fm kc es
 | .bx k off => if k ∈ m.bks then .bx k off else .any
 | .ow k ver => match s.rw k with
  | some r => if ver = r.ver ∧ k ∈ m.rks then .ow k 0 else .any
  | none => .any
 | .op k ver i off => match s.rw k with
  | some r => if ver = r.ver ∧ k ∈ m.rks then .op k 0 i off else .any
  | none => .any
 | .fn _ _ => .any
 | .os _ _ _ => .any
 | .ws _ _ _ _ => .any
 | .mp k => if k ∈ m.rks then .mp k else .any
 | .any => .any
def AS.passC (s : AS) (m : CAnn) : Cel -> Cel
 | .fn f caps => .fn f (caps.map (s.passC0 m))
 | c => s.passC0 m c
def AS.passV (s : AS) (m : CAnn) : Val -> Val
 | .one c => .one (s.passC m c)
 | .ag cs => .ag (cs.map (s.passC m))
 | _ => .any
def AS.hp (s : AS) (m : CAnn) : Hp :=
 ⟨m.bks.filterMap fun k => (s.bx k).map fun cs => (k, cs.map (s.passC m)), m.rks.filterMap fun k => (s.rw k).map fun r => (k, { r with ver := 0, es := F8 r.es })⟩
def AS.nv (s : AS) (m : CAnn) (k : Nat) : Nat := match s.rw k with
 | some r => if k ∈ m.sts then r.ver else r.ver + 1
 | none => 0
def AS.backC (s : AS) (m : CAnn) : Cel -> Cel
 | .ow k _ => .ow k (s.nv m k)
 | .op k _ i off => .op k (s.nv m k) i off
 | .fn _ _ => .any
 | .os _ _ _ => .any
 | .ws _ _ _ _ => .any
 | c => c
def AS.backV (s : AS) (m : CAnn) : Val -> Val
 | .one c => .one (s.backC m c)
 | .ag cs => .ag (cs.map (s.backC m))
 | .tu vs => .tu (vs.map fun v => match v with | .one c => .one (s.backC m c) | .ag cs => .ag (cs.map (s.backC m)) | _ => .any)
 | .any => .any
def a5N (s : AS) (m : CAnn) : List (Nat × List Cel) -> (Nat -> Option (List Cel)) -> Nat -> Option (List Cel)
 | [], b => b
 | (k, cs) :: l, b => upd (a5N s m l b) k (some (cs.map (s.backC m)))
def a5Z (s : AS) (m : CAnn) : List (Nat × Row) -> (Nat -> Option Row) -> Nat -> Option Row
 | [], b => b
 | (k, r) :: l, b => upd (a5Z s m l b) k (some { r with ver := s.nv m k })
def AS.after (s : AS) (m : CAnn) (H : Hp) : AS := ⟨s.tm, a5N s m H.bs s.bx, a5Z s m H.rs s.rw⟩
def okM (s : AS) (m : CAnn) : Bool :=
 m.bks.all (fun k => m.obs.contains k && (s.bx k).isSome) && m.rks.all (fun k => m.ors.contains k && (s.rw k).isSome) &&
 m.obs.all (fun k => m.bks.contains k || ((s.bx k).isNone && k != 0 && decide (k < 900000))) && m.ors.all (fun k => m.rks.contains k || ((s.rw k).isNone && decide (k < XK))) &&
 m.sts.all (fun k => m.rks.contains k) && m.rks.all (fun k => m.sts.contains k || (match s.rw k with | some r => r.z != 0 | none => true))
def hkB (m : CAnn) (H : Hp) : Bool :=
 (H.bs.map (·.1)).all (fun k => m.obs.contains k) && m.bks.all (fun k => (H.bs.map (·.1)).contains k) && (H.rs.map (·.1)).all (fun k => m.ors.contains k) && m.rks.all (fun k => (H.rs.map (·.1)).contains k)
def d3H (m : CAnn) (H : Hp) : Prop := (H.bs.map (·.1) = m.obs ∧ H.rs.map (·.1) = m.ors) ∨ hkB m H = true
def a2t (P : Program) (s : AS) (d : Option Nat) (fv : Val) (args : List Val) (m : CAnn) (T : AS -> Prop) : Prop :=
 match fv with
 | .one (.fn f caps) => okM s m = true ∧ ∃ R, F9 P f m.sts (s.hp m) ((args ++ caps.map Val.one).map (s.passV m)) R ∧ (∃ H r, R H r) ∧
   ∀ H r, R H r -> d3H m H ∧ T ((s.after m H).put d (s.backV m r))
 | _ => False
theorem B3 {α : Type} : ∀ {l : List (Nat × α)} {k : Nat}, k ∉ l.map (·.1) -> f7 l k = none
 | [], k, _ => rfl
 | (j, v) :: l, k, h => by
  simp only [List.map_cons, List.mem_cons, not_or] at h
  simp only [f7]
  rw [if_neg h.1, B3 h.2]
theorem J1 {α : Type} : ∀ {l : List (Nat × α)} {k : Nat}, k ∈ l.map (·.1) -> ∃ v, f7 l k = some v
 | [], k, h => by simp at h
 | (j, v) :: l, k, h => by
  simp only [f7]
  by_cases e : k = j
  ·rw [if_pos e]; exact ⟨v, rfl⟩
  ·rw [if_neg e]
   simp only [List.map_cons, List.mem_cons] at h
   exact J1 (h.resolve_left e)
theorem a6k {s : AS} {m : CAnn} : ∀ (l : List (Nat × List Cel)) (b : Nat -> Option (List Cel)) (k : Nat), a5N s m l b k = if k ∈ l.map (·.1) then (f7 l k).map (fun cs => cs.map (s.backC m)) else b k
 | [], b, k => by simp [a5N]
 | (j, cs) :: l, b, k => by
  simp only [a5N, upd, f7, List.map_cons, List.mem_cons]
  by_cases e : k = j
  ·simp [e]
  ·simp only [a6k l b k, e, false_or, if_false]
theorem b1I {s : AS} {m : CAnn} : ∀ (l : List (Nat × Row)) (b : Nat -> Option Row) (k : Nat), a5Z s m l b k = if k ∈ l.map (·.1) then (f7 l k).map (fun r => { r with ver := s.nv m k }) else b k
 | [], b, k => by simp [a5Z]
 | (j, r) :: l, b, k => by
  simp only [a5Z, upd, f7, List.map_cons, List.mem_cons]
  by_cases e : k = j
  ·simp [e]
  ·simp only [b1I l b k, e, false_or, if_false]
section
variable {P : Program} {w0 w w' : World} {okA : Nat -> Prop} {ext : Ext} {N : Nat} {s : AS} {a : Act} {E : Env} {o : Oper} {K : Act -> World -> Prop} {Q : Exit -> Act -> World -> Prop} [hT : b1K P w0 okA ext]
def Env.pass (E : Env) (m : CAnn) : Env := ⟨fun k => if k ∈ m.bks then E.gm k else Option.none, fun k => if k ∈ m.rks then (E.rm k).map (fun x => (0, x.2)) else Option.none⟩
theorem D9 {m : CAnn} {k g : Nat} (h : (E.pass m).gm k = some g) : k ∈ m.bks ∧ E.gm k = some g := by
 simp only [Env.pass] at h; split at h
 ·grind
 ·cases h
theorem G1 {m : CAnn} {k ver z : Nat} {u : Value} (h : (E.pass m).rm k = some (ver, z, u)) : k ∈ m.rks ∧ ver = 0 ∧ ∃ ver', E.rm k = some (ver', z, u) := by
 simp only [Env.pass] at h; split at h
 ·rename_i hk
  cases hx : E.rm k with
  | none => rw [hx] at h; cases h
  | some x => obtain ⟨x1, x2, x3⟩ := x; rw [hx] at h; simp at h; obtain ⟨rfl, rfl, rfl⟩ := h; exact ⟨hk, rfl, x1, rfl⟩
 ·cases h
theorem v6 (h : St w0 okA ext N s a w E) (m : CAnn) {c : Cel} {v : Value} {base : Nat} (hc : CRel0 w (okE w0 okA E) w0.heap.size E c v) : CRel0 w (okE w0 okA E) base (E.pass m) (s.passC0 m c) v := by
 have hone := hc.oneC
 cases c with
 | g u => exact hc
 | any => exact hc
 | sl fr z es =>
  show DRel w (okE w0 okA E) (.sl false z es) v
  have h2 : DRel w (okE w0 okA E) (.sl fr z es) v := by
   cases fr with
   | false => exact hc
   | true => exact DRel.keep (ok := fun b => w0.heap.size <= b ∧ okE w0 okA E b) hc (.refl _ w) (fun b _ h => h.2)
  cases h2 with
  | nil => exact .nil
  | sl us h1 h2 h3 h4 h5 h6 h7 => exact .sl us h1 h2 h3 h4 h5 h6 h7
 | ep cs => exact hc
 | bx k off =>
  simp only [AS.passC0]
  split
  ·rename_i hk
   obtain ⟨g, hg, rfl⟩ := hc
   exact ⟨g, by simp [Env.pass, hk, hg], rfl⟩
  ·exact hone
 | ow k ver =>
  simp only [AS.passC0]
  cases hs : s.rw k with
  | none => exact hone
  | some r =>
   simp only []
   split
   ·rename_i hcond
    obtain ⟨h1, ver', z, u, hr, hle, hv, hzp⟩ := hc
    obtain ⟨_, _, u', _, hu', _⟩ := h.rw k r hs
    rw [hr] at hu'
    simp only [Option.some.injEq, Prod.mk.injEq] at hu'
    obtain ⟨rfl, rfl, rfl⟩ := hu'
    exact ⟨h1, 0, r.z, u, by simp [Env.pass, hcond.2, hr], Nat.le_refl _, fun _ => hv hcond.1, hzp⟩
   ·exact hone
 | op k ver i off =>
  simp only [AS.passC0]
  cases hs : s.rw k with
  | none => exact hone
  | some r =>
   simp only []
   split
   ·rename_i hcond
    obtain ⟨h1, ver', z, u, hr, hle, hv, hzp⟩ := hc
    obtain ⟨_, _, u', _, hu', _⟩ := h.rw k r hs
    rw [hr] at hu'
    simp only [Option.some.injEq, Prod.mk.injEq] at hu'
    obtain ⟨rfl, rfl, rfl⟩ := hu'
    exact ⟨h1, 0, r.z, u, by simp [Env.pass, hcond.2, hr], Nat.le_refl _, fun _ => hv hcond.1, hzp⟩
   ·exact hone
 | os k ver lo => exact hone
 | ws k ver lo hi => exact hone
 | mp k =>
  simp only [AS.passC0]
  split
  ·rename_i hin
   obtain ⟨h1, ver', u, hr, hv⟩ := hc
   exact ⟨h1, 0, u, by simp [Env.pass, hin, hr], hv⟩
  ·exact hone
 | fm kc es => exact hc
 | fn f caps => exact hc.elim
theorem a8E (h : St w0 okA ext N s a w E) (m : CAnn) {c : Cel} {v : Value} {base : Nat} (hc : CRel w (okE w0 okA E) w0.heap.size E c v) : CRel w (okE w0 okA E) base (E.pass m) (s.passC m c) v := by
 cases c with
 | fn f caps =>
  obtain ⟨us, rfl, hl, hcs⟩ := hc
  refine ⟨us, rfl, by simpa using hl, fun i c u h1 h2 => ?_⟩
  rw [List.getElem?_map] at h1
  cases hi : caps[i]? with
  | none => rw [hi] at h1; cases h1
  | some c0 => rw [hi] at h1; simp at h1; subst h1; exact v6 h m (hcs i c0 u hi h2)
 | g u => exact (v6 h m (c := .g u) hc).toC
 | sl fr z es => exact (v6 h m (c := .sl fr z es) hc).toC
 | ep cs => exact (v6 h m (c := .ep cs) hc).toC
 | bx k off => exact (v6 h m (c := .bx k off) hc).toC
 | ow k ver => exact (v6 h m (c := .ow k ver) hc).toC
 | op k ver i off => exact (v6 h m (c := .op k ver i off) hc).toC
 | os k ver lo => exact (v6 h m (c := .os k ver lo) hc).toC
 | ws k ver lo hi => exact (v6 h m (c := .ws k ver lo hi) hc).toC
 | mp k => exact (v6 h m (c := .mp k) hc).toC
 | fm kc es => exact (v6 h m (c := .fm kc es) hc).toC
 | any => exact (v6 h m (c := .any) hc).toC
theorem a2E (h : St w0 okA ext N s a w E) (m : CAnn) {cs : List Cel} {us : List Value} {base : Nat} (hc : CsRel w (okE w0 okA E) w0.heap.size E cs us) : CsRel w (okE w0 okA E) base (E.pass m) (cs.map (s.passC m)) us := by
 refine ⟨by simpa using hc.1, fun i c u h2 h3 => ?_⟩
 rw [List.getElem?_map] at h2
 cases hi : cs[i]? with
 | none => rw [hi] at h2; cases h2
 | some c0 => rw [hi] at h2; simp at h2; subst h2; exact a8E h m (hc.2 i c0 u hi h3)
theorem a5q (h : St w0 okA ext N s a w E) (m : CAnn) {x : Val} {v : Value} {base : Nat} (hx : VRel w (okE w0 okA E) w0.heap.size E x v) : VRel w (okE w0 okA E) base (E.pass m) (s.passV m x) v := by
 cases hx with
 | one h1 => exact .one (a8E h m h1)
 | ag h1 => exact .ag (a2E h m h1)
 | tu => exact .any
 | any => exact .any
theorem b4P {es : List (List Cel)} : (F8 es).flatten = es.flatten.map Cel.dat := by simp [F8, List.map_flatten]
theorem b6B {ok : Nat -> Prop} {base base' : Nat} {c : Cel} {v : Value} (hd : c.isD = true) (h : CRel0 w ok base Env.none c v) : c.dat.isD = true ∧ CRel0 w ok base' Env.none c.dat v := by
 cases c with
 | g u => exact ⟨rfl, h⟩
 | any => exact ⟨rfl, h⟩
 | sl fr z es =>
  refine ⟨rfl, ?_⟩
  show DRel w ok (.sl false z es) v
  have h2 : DRel w ok (.sl fr z es) v := by
   cases fr with
   | false => exact h
   | true => exact DRel.keep (ok := fun b => base <= b ∧ ok b) h (.refl _ w) (fun b _ h => h.2)
  cases h2 with
  | nil => exact .nil
  | sl us h1 h2 h3 h4 h5 h6 h7 => exact .sl us h1 h2 h3 h4 h5 h6 h7
 | fm kc es => exact ⟨rfl, h⟩
 | _ => simp [Cel.isD] at hd
theorem c5T {ok : Nat -> Prop} {base base' : Nat} {cs : List Cel} {us : List Value} (h : RRel w ok base cs us) : RRel w ok base' (cs.map Cel.dat) us := by
 refine ⟨by simpa using h.1, fun i c u h2 h3 => ?_⟩
 rw [List.getElem?_map] at h2
 cases hi : cs[i]? with
 | none => rw [hi] at h2; cases h2
 | some c0 =>
  rw [hi] at h2; simp at h2; subst h2
  obtain ⟨h4, h5⟩ := h.2 i c0 u hi h3
  exact b6B h4 h5
theorem b2w (h : St w0 okA ext N s a w E) (m : CAnn) (base : Nat) : HRel w (okE w0 okA E) base (E.pass m) (f7 (s.hp m).bs) (f7 (s.hp m).rs) := by
 have hb : ∀ k, f7 (s.hp m).bs k = if k ∈ m.bks then (s.bx k).map (fun cs => cs.map (s.passC m)) else none := fun k => r9 s.bx (fun _ cs => cs.map (s.passC m)) m.bks k
 have hr : ∀ k, f7 (s.hp m).rs k = if k ∈ m.rks then (s.rw k).map (fun r => { r with ver := 0, es := F8 r.es }) else none := fun k => r9 (β := Row) s.rw (fun _ r => { r with ver := 0, es := F8 r.es }) m.rks k
 refine ⟨fun k cs hk => ?_, fun k hk => ?_, fun k r0 hk => ?_, fun k hk => ?_, fun k k' g h1 h2 => h.ginj k k' g (D9 h1).2 (D9 h2).2, fun k g k' ver z u h1 h2 => ?_, fun k ver z u k' ver' z' u' b h1 h2 => ?_⟩
 ·rw [hb] at hk
  split at hk
  ·rename_i hin
   cases hx : s.bx k with
   | none => rw [hx] at hk; cases hk
   | some cs0 =>
    rw [hx] at hk; simp at hk; subst hk
    obtain ⟨g, cur, ty, h1, h2, h3⟩ := h.bx k cs0 hx
    exact ⟨g, cur, ty, by simp [Env.pass, hin, h1], h2, a2E h m h3⟩
  ·cases hk
 ·rw [hb] at hk
  simp only [Env.pass]
  split at hk
  ·rename_i hin; rw [if_pos hin]; exact h.bxn k (by simpa using hk)
  ·grind
 ·rw [hr] at hk
  split at hk
  ·rename_i hin
   cases hx : s.rw k with
   | none => rw [hx] at hk; cases hk
   | some r1 =>
    rw [hx] at hk; simp at hk; subst hk
    obtain ⟨h1, h2, u, vs, h3, h4, h5⟩ := h.rw k r1 hx
    refine ⟨fun _ => rfl, ⟨fun hz e he => ?_, fun hz e he => ?_⟩, u, vs, by simp [Env.pass, hin, h3], by simpa [F8] using h4, by rw [b4P]; exact c5T h5⟩
    ·obtain ⟨e', h6, rfl⟩ := List.mem_map.1 he
     simpa using h2.1 hz e' h6
    ·obtain ⟨e', h6, rfl⟩ := List.mem_map.1 he
     obtain ⟨k1, c1, h7⟩ := h2.2 hz e' h6
     exact ⟨k1, c1.dat, by rw [h7]; rfl⟩
  ·cases hk
 ·rw [hr] at hk
  simp only [Env.pass]
  split at hk
  ·rename_i hin; rw [if_pos hin, h.rwn k (by simpa using hk)]; rfl
  ·grind
 ·obtain ⟨_, _, v', h3⟩ := G1 h2
  exact h.gr k g k' v' z u (D9 h1).2 h3
 ·obtain ⟨_, _, v1, h3⟩ := G1 h1
  obtain ⟨_, _, v2, h4⟩ := G1 h2
  exact h.rr k v1 z u k' v2 z' u' b h3 h4
def Env.after (E E' : Env) (s : AS) (m : CAnn) : Env :=
 ⟨fun k => if k ∈ m.obs then E'.gm k else E.gm k, fun k => if k ∈ m.ors then (E'.rm k).map (fun x => (s.nv m k, x.2)) else E.rm k⟩
theorem St.called_m (h : St w0 okA ext N s a w E) {m : CAnn} (hm : okM s m = true) {H : Hp} {E' : Env} (hkb : H.bs.map (·.1) = m.obs) (hkr : H.rs.map (·.1) = m.ors) (hg : Grew (E.pass m).own w w')
  (hH : HRel w' (okE w (okE w0 okA E) E') w.heap.size E' (f7 H.bs) (f7 H.rs)) (hsame : ∀ k g g', (E.pass m).gm k = some g -> E'.gm k = some g' -> g = g') (hgm : ∀ k g, E'.gm k = some g -> w.heap.size <= g ∨ (E.pass m).own g)
  (hrm : ∀ k ver z u b, E'.rm k = some (ver, z, u) -> (u6 u) = some b -> w.heap.size <= b ∨ ∃ ver' z' u', (E.pass m).rm k = some (ver', z', u') ∧ (u6 u') = some b)
  (hver : ∀ k r0, f7 H.rs k = some r0 -> r0.ver = 0) (hz : ∀ k r0 r1, f7 (s.hp m).rs k = some r0 -> f7 H.rs k = some r1 -> r1.z = r0.z)
  (hstay : ∀ k ver ver' z z' u u', k ∈ m.sts -> (E.pass m).rm k = some (ver, z, u) -> E'.rm k = some (ver', z', u') -> u = u')
  {d : Option Nat} {r : Val} {v : Value} (hv : VRel w' (okE w (okE w0 okA E) E') w.heap.size E' r v) (htb : ∀ k g, W1 k = true -> (E.pass m).gm k = some g -> E'.gm k = some g -> ∃ cur T, w'.heap[g]? = some (.cells cur T (0, 0)) ∧ ext.bT T) (hd : ∀ k, d = some k -> k < N) :
  St w0 okA ext N ((s.after m H).put d (s.backV m r)) (a.put d v) w' (E.after E' s m) := by
 simp only [okM, Bool.and_eq_true, List.all_eq_true, Bool.or_eq_true, List.contains_iff_mem, decide_eq_true_eq, bne_iff_ne, ne_eq] at hm
 obtain ⟨⟨⟨⟨⟨hm1, hm2⟩, hm3⟩, hm4⟩, hm5⟩, hm6⟩ := hm
 have hob : ∀ b, (E.pass m).own b -> E.own b := fun b hb => by
  rcases hb with ⟨k, hk⟩ | ⟨k, ver, z, u, hk, hu⟩
  ·exact .inl ⟨k, (D9 hk).2⟩
  ·obtain ⟨_, _, v', h3⟩ := G1 hk; exact .inr ⟨k, v', z, u, h3, hu⟩
 have hownlt : ∀ b, E.own b -> b < w.heap.size := fun b hb => by
  rcases hb with ⟨k, hk⟩ | ⟨k, ver, z, u, hk, hu⟩
  ·exact h.glt hk
  ·exact h.rlt hk hu
 have hokn : ∀ b, okE w0 okA E b -> ¬ E.own b := fun b ho hb => by
  rcases hb with ⟨k, hk⟩ | ⟨k, ver, z, u, hk, hu⟩
  ·exact ho.1 k hk
  ·exact ho.2.1 k ver z u hk hu
 have hkeep : Keeps (okE w0 okA E) w w' := ⟨hg.size, fun b hb ho => hg.block b hb (fun hb' => hokn b ho (hob b hb'))⟩
 -- a key that is kept from the caller's side
 have hgold : ∀ k g, E.gm k = some g -> k ∉ m.obs -> ¬ (E.pass m).own g := fun k g hk hno ho => by
  rcases ho with ⟨j, hj⟩ | ⟨j, ver, z, u, hj, hu⟩
  ·obtain ⟨hj1, hj2⟩ := D9 hj
   have := h.ginj k j g hk hj2; subst this
   exact hno (hm1 k hj1).1
  ·obtain ⟨_, _, v', h3⟩ := G1 hj
   exact h.gr k g j v' z u hk h3 hu
 have hrold : ∀ k ver z u b, E.rm k = some (ver, z, u) -> (u6 u) = some b -> k ∉ m.ors -> ¬ (E.pass m).own b := fun k ver z u b hk hu hno ho => by
  rcases ho with ⟨j, hj⟩ | ⟨j, ver', z', u', hj, hu'⟩
  ·exact h.gr j b k ver z u (D9 hj).2 hk hu
  ·obtain ⟨hj1, _, v', h3⟩ := G1 hj
   have := h.rr k ver z u j v' z' u' b hk h3 hu hu'; subst this
   exact hno (hm2 k hj1).1
 have hgm' : ∀ {k g}, (E.after E' s m).gm k = some g -> (k ∈ m.obs ∧ E'.gm k = some g) ∨ (k ∉ m.obs ∧ E.gm k = some g) := fun {k g} hk => by
  simp only [Env.after] at hk; split at hk
  ·grind
  ·grind
 have hrm' : ∀ {k ver z u}, (E.after E' s m).rm k = some (ver, z, u) -> (k ∈ m.ors ∧ ver = s.nv m k ∧ ∃ ver', E'.rm k = some (ver', z, u)) ∨ (k ∉ m.ors ∧ E.rm k = some (ver, z, u)) := fun {k ver z u} hk => by
  simp only [Env.after] at hk; split at hk
  ·rename_i hin
   cases hx : E'.rm k with
   | none => rw [hx] at hk; cases hk
   | some x => obtain ⟨x1, x2, x3⟩ := x; rw [hx] at hk; simp at hk; obtain ⟨rfl, rfl, rfl⟩ := hk; exact .inl ⟨hin, rfl, x1, rfl⟩
  ·grind
 have hg'lt : ∀ {k g}, E'.gm k = some g -> g < w'.heap.size := fun {k g} hk => by
  cases hb : f7 H.bs k with
  | none => rw [hH.bxn k hb] at hk; cases hk
  | some cs =>
   obtain ⟨g', cur, ty, h1, h2, _⟩ := hH.bx k cs hb
   all_goals grind
 -- the callee's blocks and the caller's others are apart
 have hapart1 : ∀ k g j g', E'.gm k = some g -> E.gm j = some g' -> j ∉ m.obs -> g ≠ g' := fun k g j g' hk hj hno e => by
  subst e
  rcases hgm k g hk with h1 | h1
  ·have := h.glt hj; omega
  ·exact hgold j g hj hno h1
 have hapart2 : ∀ k g j ver z u, E'.gm k = some g -> E.rm j = some (ver, z, u) -> j ∉ m.ors -> (u6 u) ≠ some g := fun k g j ver z u hk hj hno e => by
  rcases hgm k g hk with h1 | h1
  ·have := h.rlt hj e; omega
  ·grind
 have hrmo : ∀ {k ver z u b}, E'.rm k = some (ver, z, u) -> (u6 u) = some b -> w.heap.size <= b ∨ (E.pass m).own b := fun {k ver z u b} hk hu => by
  rcases hrm k ver z u b hk hu with h1 | ⟨v', z', u', h1, h2⟩
  ·exact .inl h1
  ·exact .inr (.inr ⟨k, v', z', u', h1, h2⟩)
 have hapart3 : ∀ k ver z u j g, E'.rm k = some (ver, z, u) -> E.gm j = some g -> j ∉ m.obs -> (u6 u) ≠ some g := fun k ver z u j g hk hj hno e => by
  rcases hrmo hk e with h1 | h1
  ·have := h.glt hj; omega
  ·exact hgold j g hj hno h1
 have hapart4 : ∀ k ver z u j ver' z' u' b, E'.rm k = some (ver, z, u) -> E.rm j = some (ver', z', u') -> j ∉ m.ors -> (u6 u) = some b -> (u6 u') ≠ some b := fun k ver z u j ver' z' u' b hk hj hno e e' => by
  rcases hrmo hk e with h1 | h1
  ·have := h.rlt hj e'; omega
  ·grind
 have hle : EnvLe E (E.after E' s m) := by
  refine ⟨fun k g hk => ?_, fun k ver z u hk => ?_⟩
  ·simp only [Env.after]
   split
   ·rename_i hin
    have hbk : k ∈ m.bks := by
     rcases hm3 k hin with h1 | h1
     ·exact h1
     ·have := h.bxn k (by simpa using h1.1.1); rw [this] at hk; cases hk
    obtain ⟨cs, hcs⟩ := J1 (l := H.bs) (k := k) (by rw [hkb]; exact hin)
    obtain ⟨g', cur, ty, h1, _⟩ := hH.bx k cs hcs
    have := hsame k g g' (by simp [Env.pass, hbk, hk]) h1
    subst this; exact h1
   ·exact hk
  ·simp only [Env.after]
   split
   ·rename_i hin
    have hrk : k ∈ m.rks := by
     rcases hm4 k hin with h1 | h1
     ·exact h1
     ·have := h.rwn k (by simpa using h1.1); rw [this] at hk; cases hk
    obtain ⟨r1, hr1⟩ := J1 (l := H.rs) (k := k) (by rw [hkr]; exact hin)
    obtain ⟨_, _, u', _, h1, _⟩ := hH.rw k r1 hr1
    cases hsr : s.rw k with
    | none => rw [h.rwn k hsr] at hk; cases hk
    | some r0 =>
     obtain ⟨_, _, u0, _, h2, _⟩ := h.rw k r0 hsr
     rw [hk] at h2; simp only [Option.some.injEq, Prod.mk.injEq] at h2
     obtain ⟨rfl, rfl, rfl⟩ := h2
     have hzz := hz k _ r1 (show f7 (s.hp m).rs k = some { r0 with ver := 0, es := F8 r0.es } by
      have := r9 (β := Row) s.rw (fun _ r => { r with ver := 0, es := F8 r.es }) m.rks k
      simp only [AS.hp, this, hrk, if_true, hsr, Option.map_some]) hr1
     by_cases hst : k ∈ m.sts
     ·have hnv : s.nv m k = r0.ver := by simp [AS.nv, hsr, hst]
      have h9 : (E.pass m).rm k = (E.rm k).map (fun x => (0, x.2)) := by simp only [Env.pass, if_pos hrk]
      grind
     ·have hnv : s.nv m k = r0.ver + 1 := by simp [AS.nv, hsr, hst]
      all_goals grind
   ·grind
 have hok : ∀ b, b < w.heap.size -> okE w0 okA E b -> okE w0 okA (E.after E' s m) b := fun b hb ho => by
  refine ⟨fun k hk => ?_, fun k ver z u hk hu => ?_, ho.2.2⟩
  ·rcases hgm' hk with ⟨_, h1⟩ | ⟨_, h1⟩
   ·all_goals grind
   ·exact ho.1 k h1
  ·rcases hrm' hk with ⟨_, _, v', h1⟩ | ⟨_, h1⟩
   ·all_goals grind
   ·exact ho.2.1 k ver z u h1 hu
 have hok2 : ∀ b, okE w (okE w0 okA E) E' b -> okE w0 okA (E.after E' s m) b := fun b ho => by
  refine ⟨fun k hk => ?_, fun k ver z u hk hu => ?_, ?_⟩
  ·rcases hgm' hk with ⟨_, h1⟩ | ⟨_, h1⟩
   ·exact ho.1 k h1
   ·rcases ho.2.2 with h2 | h2
    ·have := h.glt h1; omega
    ·exact h2.1 k h1
  ·rcases hrm' hk with ⟨_, _, v', h1⟩ | ⟨_, h1⟩
   ·exact ho.2.1 k v' z u h1 hu
   ·rcases ho.2.2 with h2 | h2
    ·have := h.rlt h1 hu; omega
    ·exact h2.2.1 k ver z u h1 hu
  ·rcases ho.2.2 with h2 | h2
   ·exact .inl (Nat.le_trans h.frame.size h2)
   ·exact h2.2.2
 have hbase := h.frame.size
 have back0 : ∀ {c : Cel} {u : Value}, CRel w' (okE w (okE w0 okA E) E') w.heap.size E' c u -> CRel w' (okE w0 okA (E.after E' s m)) w0.heap.size (E.after E' s m) (s.backC m c) u := fun {c u} hc => by
  cases c with
  | g x => exact hc
  | any => exact hc
  | sl fr z es =>
   cases fr with
   | false => exact DRel.keep hc (.refl _ w') (fun b _ ho => hok2 b ho)
   | true => exact DRel.keep (ok := fun b => w.heap.size <= b ∧ okE w (okE w0 okA E) E' b) hc (.refl _ w') (fun b _ ho => ⟨Nat.le_trans hbase ho.1, hok2 b ho.2⟩)
  | ep cs =>
   obtain ⟨b, off, us, rfl, h2, h3, h4⟩ := hc
   exact ⟨b, off, us, rfl, hok2 b h2, h3, fun j x hx => ⟨(h4 j x hx).1, (h4 j x hx).2.keep (.refl _ w') (fun b _ hb => hok2 b hb)⟩⟩
  | fm kc es => exact DRel.keep hc (.refl _ w') (fun b _ ho => hok2 b ho)
  | bx k off =>
   obtain ⟨g, hg1, rfl⟩ := hc
   have hin : k ∈ m.obs := by
    rw [<- hkb]
    apply Classical.byContradiction
    intro hno
    rw [hH.bxn k (B3 hno)] at hg1; cases hg1
   exact ⟨g, by simp [Env.after, hin, hg1], rfl⟩
  | ow k ver =>
   obtain ⟨h1, ver', z, x, hr, hle', hx, hzp⟩ := hc
   have hin : k ∈ m.ors := by
    rw [<- hkr]
    apply Classical.byContradiction
    intro hno
    rw [hH.rwn k (B3 hno)] at hr; cases hr
   obtain ⟨r1, hr1⟩ := J1 (l := H.rs) (k := k) (by rw [hkr]; exact hin)
   obtain ⟨_, _, u', _, h3, _⟩ := hH.rw k r1 hr1
   rw [hr] at h3; simp only [Option.some.injEq, Prod.mk.injEq] at h3
   have h4 := hver k r1 hr1
   exact ⟨h1, s.nv m k, z, x, by simp [Env.after, hin, hr], Nat.le_refl _, fun _ => hx (by omega), hzp⟩
  | op k ver i off =>
   obtain ⟨h1, ver', z, x, hr, hle', hx, hzp⟩ := hc
   have hin : k ∈ m.ors := by
    rw [<- hkr]
    apply Classical.byContradiction
    intro hno
    rw [hH.rwn k (B3 hno)] at hr; cases hr
   obtain ⟨r1, hr1⟩ := J1 (l := H.rs) (k := k) (by rw [hkr]; exact hin)
   obtain ⟨_, _, u', _, h3, _⟩ := hH.rw k r1 hr1
   rw [hr] at h3; simp only [Option.some.injEq, Prod.mk.injEq] at h3
   have h4 := hver k r1 hr1
   exact ⟨h1, s.nv m k, z, x, by simp [Env.after, hin, hr], Nat.le_refl _, fun _ => hx (by omega), hzp⟩
  | os k ver lo =>
   have := hc.oneC
   exact this
  | ws k ver lo hi =>
   have := hc.oneC
   exact this
  | mp k =>
   obtain ⟨h1, ver', x, hr, hx⟩ := hc
   have hin : k ∈ m.ors := by
    rw [<- hkr]
    apply Classical.byContradiction
    intro hno
    rw [hH.rwn k (B3 hno)] at hr; cases hr
   exact ⟨h1, s.nv m k, x, by simp [Env.after, hin, hr], hx⟩
  | fn f caps =>
   have := hc.oneC
   exact this
 have backs : ∀ {cs : List Cel} {us : List Value}, CsRel w' (okE w (okE w0 okA E) E') w.heap.size E' cs us -> CsRel w' (okE w0 okA (E.after E' s m)) w0.heap.size (E.after E' s m) (cs.map (s.backC m)) us := fun {cs us} hc => by
  refine ⟨by simpa using hc.1, fun i c u h2 h3 => ?_⟩
  rw [List.getElem?_map] at h2
  cases hi : cs[i]? with
  | none => rw [hi] at h2; cases h2
  | some c0 => rw [hi] at h2; simp at h2; subst h2; exact back0 (hc.2 i c0 u hi h3)
 have backv : VRel w' (okE w0 okA (E.after E' s m)) w0.heap.size (E.after E' s m) (s.backV m r) v := by
  cases hv with
  | one h1 => exact .one (back0 h1)
  | ag h1 => exact .ag (backs h1)
  | any => exact .any
  | @tu vs us hl h1 =>
   refine .tu (by simpa using hl) fun i x u h2 h3 => ?_
   rw [List.getElem?_map] at h2
   cases hi : vs[i]? with
   | none => rw [hi] at h2; cases h2
   | some x0 =>
    rw [hi] at h2; simp at h2; subst h2
    have h4 := h1 i x0 u hi h3
    cases h4 with
    | one h5 => exact .one (back0 h5)
    | ag h5 => exact .ag (backs h5)
    | tu => exact .any
    | any => exact .any
 have hst : St w0 okA ext N (s.after m H) a w' (E.after E' s m) := by
  have hbx : ∀ k, (s.after m H).bx k = if k ∈ m.obs then (f7 H.bs k).map (fun cs => cs.map (s.backC m)) else s.bx k := fun k => by rw [<- hkb]; exact a6k H.bs s.bx k
  have hrw : ∀ k, (s.after m H).rw k = if k ∈ m.ors then (f7 H.rs k).map (fun r => { r with ver := s.nv m k }) else s.rw k := fun k => by rw [<- hkr]; exact b1I H.rs s.rw k
  refine ⟨h.size, h.defers, fun t => (h.tm t).move hkeep hok (Nat.le_refl _) hle, fun k cs hk => ?_, fun k hk => ?_, fun k r0 hk => ?_, fun k hk => ?_, fun k k' g h1 h2 => ?_, fun k g k' ver z u h1 h2 => ?_, fun k ver z u k' ver' z' u' b h1 h2 hb hb' => ?_, fun k g hk => ?_, fun k g hk0 hk => ?_, h.nx, fun k ver z u b hk hb => ?_, fun k z u hkx hk => ?_, ?_, fun k g hbk hk => ?_⟩
  ·rw [hbx] at hk
   split at hk
   ·rename_i hin
    cases hx : f7 H.bs k with
    | none => rw [hx] at hk; cases hk
    | some cs0 =>
     rw [hx] at hk; simp at hk; subst hk
     obtain ⟨g, cur, ty, h1, h2, h3⟩ := hH.bx k cs0 hx
     exact ⟨g, cur, ty, by simp [Env.after, hin, h1], h2, backs h3⟩
   ·rename_i hin
    obtain ⟨g, cur, ty, h1, h2, h3⟩ := h.bx k cs hk
    exact ⟨g, cur, ty, by simp [Env.after, hin, h1], (hg.block g (h.glt h1) (hgold k g h1 hin)).trans h2, h3.move hkeep hok (Nat.le_refl _) hle⟩
  ·rw [hbx] at hk
   simp only [Env.after]
   split at hk
   ·rename_i hin
    obtain ⟨cs, hcs⟩ := J1 (l := H.bs) (k := k) (by rw [hkb]; exact hin)
    rw [hcs] at hk; cases hk
   ·rename_i hin; rw [if_neg hin]; exact h.bxn k hk
  ·rw [hrw] at hk
   split at hk
   ·rename_i hin
    cases hx : f7 H.rs k with
    | none => rw [hx] at hk; cases hk
    | some r1 =>
     rw [hx] at hk; simp at hk; subst hk
     obtain ⟨h1, h2, u, vs, h3, h4, h5⟩ := hH.rw k r1 hx
     refine ⟨fun h0 => ?_, h2, u, vs, by simp [Env.after, hin, h3], h4, h5.move (.refl _ w') (fun b _ ho => hok2 b ho) hbase⟩
     show s.nv m k = 0
     cases hsr : s.rw k with
     | none => simp [AS.nv, hsr]
     | some r0 =>
      rcases hm4 k hin with h6 | h6
      ·have hzz := hz k _ r1 (show f7 (s.hp m).rs k = some { r0 with ver := 0, es := F8 r0.es } by
        have := r9 (β := Row) s.rw (fun _ r => { r with ver := 0, es := F8 r.es }) m.rks k
        simp only [AS.hp, this, h6, if_true, hsr, Option.map_some]) hx
       have hr0 : r0.z = 0 := by
        grind
       have hst : k ∈ m.sts := by
        all_goals grind
       have := (h.rw k r0 hsr).1 hr0
       simp [AS.nv, hsr, hst, this]
      ·grind
   ·rename_i hin
    obtain ⟨h1, h2, u, vs, h3, h4, h5⟩ := h.rw k r0 hk
    refine ⟨h1, h2, u, vs, by simp [Env.after, hin, h3], ?_, h5.move hkeep hok (Nat.le_refl _)⟩
    exact h4.of_block fun b hb => hg.block b (h.rlt h3 hb) (hrold k _ _ _ b h3 hb hin)
  ·rw [hrw] at hk
   simp only [Env.after]
   split at hk
   ·rename_i hin
    obtain ⟨r1, hr1⟩ := J1 (l := H.rs) (k := k) (by rw [hkr]; exact hin)
    rw [hr1] at hk; cases hk
   ·rename_i hin; rw [if_neg hin]; exact h.rwn k hk
  ·rcases hgm' h1 with ⟨_, e1⟩ | ⟨n1, e1⟩ <;> rcases hgm' h2 with ⟨_, e2⟩ | ⟨n2, e2⟩
   ·exact hH.ginj k k' g e1 e2
   ·grind
   ·grind
   ·exact h.ginj k k' g e1 e2
  ·rcases hgm' h1 with ⟨_, e1⟩ | ⟨n1, e1⟩ <;> rcases hrm' h2 with ⟨_, _, v2, e2⟩ | ⟨n2, e2⟩
   ·exact hH.gr k g k' v2 z u e1 e2
   ·grind
   ·grind
   ·exact h.gr k g k' ver z u e1 e2
  ·rcases hrm' h1 with ⟨_, _, v1, e1⟩ | ⟨n1, e1⟩ <;> rcases hrm' h2 with ⟨_, _, v2, e2⟩ | ⟨n2, e2⟩
   ·exact hH.rr k v1 z u k' v2 z' u' b e1 e2 hb hb'
   ·grind
   ·grind
   ·exact h.rr k ver z u k' ver' z' u' b e1 e2 hb hb'
  ·rcases hgm' hk with ⟨_, e1⟩ | ⟨_, e1⟩
   ·rcases hgm k g e1 with h1 | h1
    ·grind
    ·rcases h1 with ⟨j, hj⟩ | ⟨j, ver, z, u, hj, hu⟩
     ·exact h.gfr j g (D9 hj).2
     ·obtain ⟨_, _, v', h3⟩ := G1 hj
      exact (h.rfr j v' z u g h3 hu).imp id (fun h => h.2.2)
   ·exact h.gfr k g e1
  ·rcases hgm' hk with ⟨hin, e1⟩ | ⟨_, e1⟩
   ·have hbk : k ∈ m.bks := by
     rcases hm3 k hin with h1 | h1
     ·exact h1
     ·exfalso; rcases hk0 with h2 | h2
      ·exact h1.1.2 h2
      ·have := h1.2; simp only [XK] at h2; omega
    have hsb := (hm1 k hbk).2
    cases hsk : s.bx k with
    | none => rw [hsk] at hsb; cases hsb
    | some cs0 =>
     obtain ⟨g0, _, _, h1, _⟩ := h.bx k cs0 hsk
     have := hsame k g0 g (by simp [Env.pass, hbk, h1]) e1
     subst this
     exact h.gx k g0 hk0 h1
   ·exact h.gx k g hk0 e1
  ·rcases hrm' hk with ⟨hin, _, v', e1⟩ | ⟨_, e1⟩
   ·rcases hrm k v' z u b e1 hb with h1 | ⟨v2, z2, u2, h1, h2⟩
    ·grind
    ·obtain ⟨_, _, v3, h3⟩ := G1 h1
     exact h.rfr k v3 z2 u2 b h3 h2
   ·exact h.rfr k ver z u b e1 hb
  ·rcases hrm' hk with ⟨hin, hnv, v', e1⟩ | ⟨_, e1⟩
   ·rcases hm4 k hin with h1 | h1
    ·have h2 := (hm2 k h1).2
     cases hs : s.rw k with
     | none => rw [hs] at h2; cases h2
     | some r0 =>
      obtain ⟨_, _, u0, _, h3, _⟩ := h.rw k r0 hs
      by_cases hst : k ∈ m.sts
      ·simp [AS.nv, hs, hst] at hnv
       have h4 := hstay k 0 v' r0.z z u0 u hst (by simp [Env.pass, h1, h3]) e1
       subst h4
       rw [<- hnv] at h3
       exact h.rst k _ _ hkx h3
      ·simp [AS.nv, hs, hst] at hnv
    ·have := h1.2; omega
   ·exact h.rst k z u hkx e1
  ·refine ⟨hg.os.trans h.frame.os, hg.tape.trans h.frame.tape, hg.output.trans h.frame.output, Nat.le_trans h.frame.size hg.size, fun b hb hne => ?_⟩
   refine (hg.block b (Nat.lt_of_lt_of_le hb h.frame.size) (fun ho => ?_)).trans (h.frame.block b hb hne)
   rcases ho with ⟨j, hj⟩ | ⟨j, ver, z, u, hj, hu⟩
   ·rcases h.gfr j b (D9 hj).2 with h1 | h1
    ·omega
    ·exact hne h1
   ·obtain ⟨_, _, v', h3⟩ := G1 hj
    rcases h.rfr j v' z u b h3 hu with h1 | h1
    ·omega
    ·exact hne h1.2.2
  ·by_cases hin : k ∈ m.obs
   ·have hk : E'.gm k = some g := by simpa [Env.after, hin] using hk
    rcases hm3 k hin with h1 | h1
    ·cases hx : (E.pass m).gm k with
     | none =>
      obtain ⟨h2, h3⟩ := hm1 k h1
      cases hs : s.bx k with
      | none => rw [hs] at h3; cases h3
      | some cs =>
       obtain ⟨g', cur, ty, h4, _⟩ := h.bx k cs hs
       simp [Env.pass, h1, h4] at hx
     | some g' =>
      grind
    ·rw [a6w h1.2] at hbk; cases hbk
   ·have h1 : E.gm k = some g := by simpa [Env.after, hin] using hk
    obtain ⟨c0, T, h2, h3⟩ := h.bt k g hbk h1
    exact ⟨c0, T, (hg.block g (h.glt h1) (hgold k g h1 hin)).trans h2, h3⟩
 exact hst.put backv hd
def CAnn.at (m : CAnn) (H : Hp) : CAnn := ⟨m.bks, m.rks, H.bs.map (·.1), H.rs.map (·.1), m.sts⟩
theorem a7J {m : CAnn} {H : Hp} : s.backC (m.at H) = s.backC m := by funext c; cases c <;> rfl
theorem b9x {m : CAnn} {H : Hp} : s.backV (m.at H) = s.backV m := by funext x; cases x <;> simp only [AS.backV, a7J]
theorem b7q {m : CAnn} {H : Hp} : s.after (m.at H) H = s.after m H := by
 have p1 : ∀ l b, a5N s (m.at H) l b = a5N s m l b := by
  intro l; induction l with
  | nil => intro b; rfl
  | cons p l ih => intro b; obtain ⟨j, cs⟩ := p; simp only [a5N, ih, a7J]
 have p2 : ∀ l b, a5Z s (m.at H) l b = a5Z s m l b := by
  intro l; induction l with
  | nil => intro b; rfl
  | cons p l ih => intro b; obtain ⟨j, cs⟩ := p; simp only [a5Z, ih]; rfl
 simp only [AS.after, p1, p2]
theorem d2a {m : CAnn} {H : Hp} (h : okM s m = true) (hk : hkB m H = true) : okM s (m.at H) = true := by
 simp only [okM, hkB, CAnn.at, Bool.and_eq_true, List.all_eq_true, Bool.or_eq_true, List.contains_iff_mem, decide_eq_true_eq, bne_iff_ne, ne_eq] at h hk ⊢
 grind
theorem a6n (h : St w0 okA ext N s a w E) {fo : Operand} {args : Array Operand} {ts : Array TypeId} {fy : Opd} {ys : List Opd} {m : CAnn} (ho : o.op = .call { callee := .value fo, args, argTypes := ts }) (hf : opd fo = some fy) (hy : args.toList.mapM opd = some ys)
  (hd : ∀ k, o.dst = some k -> k < N) (hK : a2t P s o.dst (s.ev fy) (ys.map s.ev) m (n7 w0 okA ext N K)) : o.wp P a w K Q := by
 have hrel := a4p h hy
 have hlen : ys.length = args.toList.length := F3 hy
 have hfr := l5 h hf
 unfold a2t at hK
 split at hK
 ·rename_i f caps hfv
  obtain ⟨hm, R, hFC, _, hR⟩ := hK
  obtain ⟨us, hfe, hul, hcaps⟩ := u9 hfr hfv
  have hrun := a0Y (P := P) (w := w) ho hfe hFC.1
  unfold Oper.wp
  rw [hrun, Oper.upon_enter]
  have hall : ∀ (i : Nat) (x : Val) (u : Value), ((ys.map s.ev) ++ caps.map Val.one)[i]? = some x -> (args.toList.map a.eval ++ us)[i]? = some u -> VRel w (okE w0 okA E) w0.heap.size E x u := fun i x u hx hu => by
   rw [List.getElem?_append] at hx hu
   have h7 : (ys.map s.ev).length = (args.toList.map a.eval).length := by simpa using hlen
   rw [h7] at hx
   split at hx
   ·grind
   ·rename_i hlt; rw [if_neg hlt] at hu
    rw [List.getElem?_map] at hx
    cases hi : caps[i - (args.toList.map a.eval).length]? with
    | none => rw [hi] at hx; cases hx
    | some c0 =>
     rw [hi] at hx; simp at hx; subst hx
     exact .one (hcaps _ c0 u hi hu).toC
  have hlen2 : ((ys.map s.ev ++ caps.map Val.one).map (s.passV m)).length = (args.toList.map a.eval ++ us).length := by simp at hlen ⊢; omega
  have hc := hFC.2 w (okE w0 okA E) (E.pass m) (args.toList.map a.eval ++ us) h.tab.1 (b2w h m _) (fun b hb ho => by
   rcases hb with ⟨k, hk⟩ | ⟨k, ver, z, u, hk, hu⟩
   ·exact ho.1 k (D9 hk).2
   ·obtain ⟨_, _, v', h3⟩ := G1 hk; exact ho.2.1 k v' z u h3 hu) (fun k g hbk hk => by have := h.bt k g hbk (D9 hk).2; rwa [hT.bt] at this) hlen2 (fun i x u hx hu => by
   rw [List.getElem?_map] at hx
   cases hi : (ys.map s.ev ++ caps.map Val.one)[i]? with
   | none => rw [hi] at hx; cases hx
   | some x0 => rw [hi] at hx; simp at hx; subst hx; exact a5q h m (hall i x0 u hi hu))
  refine Calls.mono hc ?_
  rintro e w1 ⟨v, H, r, E', rfl, hRr, hgr, hH, hv, h1, h2, h3, h4, h5, h6, h7⟩
  have h7 : ∀ k g, W1 k = true -> (E.pass m).gm k = some g -> E'.gm k = some g -> ∃ cur T, w1.heap[g]? = some (.cells cur T (0, 0)) ∧ ext.bT T := by rw [hT.bt]; exact h7
  obtain ⟨hk, hTT⟩ := hR H r hRr
  rcases hk with ⟨hkb, hkr⟩ | hk
  ·exact hTT _ _ _ (h.called_m hm hkb hkr hgr hH h1 h2 h3 h4 h5 h6 hv h7 hd)
  ·have := h.called_m (m := m.at H) (d2a hm hk) rfl rfl hgr hH h1 h2 h3 h4 h5 h6 hv h7 hd
   rw [b7q, b9x] at this
   exact hTT _ _ _ this
 ·exact hK.elim
end
end Go.Ai
namespace Go.Ai
open Go
theorem H6 {x : Opd} {lo hi : Option Operand} {i : Ins} (h : a4D x lo hi = some i) : ∃ l u, i = .ssub x l u := by
 unfold a4D at h
 split at h
 ·grind
 ·simp only [Option.map_eq_some_iff] at h; obtain ⟨_, _, h⟩ := h; exact ⟨_, _, h.symm⟩
 ·simp only [Option.map_eq_some_iff] at h; obtain ⟨_, _, h⟩ := h; exact ⟨_, _, h.symm⟩
 ·all_goals grind
theorem N0 {P : Program} {t : TypeId} {x j : Opd} {i : Ins} (h : a8x P t x j = some i) : ∃ n z, i = .aadr n z x j := by
 unfold a8x at h
 split at h
 ·simp only [Option.map_eq_some_iff] at h; obtain ⟨_, _, h⟩ := h; exact ⟨_, _, h.symm⟩
 ·cases h
def s7 (P : Program) (s : AS) (i : GI) (T : AS -> Prop) : Prop :=
 match i.ins with
 | .pick c a b => match s.ev c with
  | .one (.g (.bool t)) => match t with
   | true => T (s.put i.dst (s.ev a))
   | false => T (s.put i.dst (s.ev b))
  | _ => False
 | .call f args => a4K P s i.dst (s.ev f) (args.map s.ev) T
 | .callx f args => W7 P s i.dst (s.ev f) (args.map s.ev) T
 | .callm f args m => a2t P s i.dst (s.ev f) (args.map s.ev) m T
 | ins => q6 (c9 i.dst ins s) T
def AS.fix (s : AS) (g : Nat) (b : Bool) : AS := { s with tm := upd s.tm g (bv b) }
def Q8 (P : Program) (s : AS) (i : GI) (T : AS -> Prop) : Prop :=
 match i.gd with
 | none => s7 P s i T
 | some (g, want) => match s.tm g with
  | .one (.g (.bool b)) => match b with
   | true => match want with
    | true => s7 P (s.fix g true) i T
    | false => T ((s.fix g true).put i.dst (.tu []))
   | false => match want with
    | true => T ((s.fix g false).put i.dst (.tu []))
    | false => s7 P (s.fix g false) i T
  | .tu [] => T (s.put i.dst (.tu []))
  | _ => False
def c7n : Val -> Option (Option Bool)
 | .one (.g (.bool b)) => some (some b)
 | .tu [] => some none
 | _ => none
def a6M (P : Program) : List GI -> (AS -> Prop) -> AS -> Prop
 | [], T, s => T s
 | i :: l, T, s => Q8 P s i (a6M P l T)
def a6W (ca : List (Nat × CAnn)) (d : Option Nat) (e : Option TypeId) : Ins -> Ins
 | .call f as => match f7 ca (d.getD 0) with
  | some m => .callm f as m
  | none => .call f as
 | .callx f as => match f7 ca (d.getD 0) with
  | some m => .callm f as m
  | none => .callx f as
 | .slc z x (some l) none => match f7 ca (d.getD 0) with
  | some _ => .sfx z x l
  | none => .slc z x (some l) none
 | .slc z x none (some h) => match f7 ca (d.getD 0) with
  | some _ => .trn z x h
  | none => .slc z x none (some h)
 | i => i
def c4Q (P : Program) (o : Oper) : Option TypeId :=
 match o.op with
 | .buildSlice t _ _ => (u3 P t).map (·.1)
 | _ => none
def c5f (P : Program) (ca : List (Nat × CAnn)) (o : Oper) : Ins := ((q8 P o).map (a6W ca o.dst (c4Q P o))).getD (.un .neg (.f 0))
def l7 (P : Program) (N : Nat) (ca : List (Nat × CAnn)) (ops : Array Oper) (o : Oper) : Option GI :=
 match (match o.dst with | some d => decide (d < N) | none => true), (match o.guard with | none => some none | some (j, want) => ((ops[j]?).bind (·.dst)).map fun g => some (g, want)) with
 | true, some gd => some ⟨o.dst, gd, c5f P ca o⟩
 | _, _ => none
section
variable {P : Program} {w0 w w' : World} {okA : Nat -> Prop} {ext : Ext} {N : Nat} {s : AS} {a : Act} {E : Env} {o : Oper} {K : Act -> World -> Prop} {Q : Exit -> Act -> World -> Prop} [hT : b1K P w0 okA ext]
theorem b0n (h : St w0 okA ext N s a w E) {gd : Option (Nat × Bool)} {c x y : Operand} {c' x' y' : Opd} (hc : opd c = some c') (hx : opd x = some x') (hy : opd y = some y') (ho : o.op = .pick c x y) (hd : ∀ k, o.dst = some k -> k < N)
  (hK : s7 P s ⟨o.dst, gd, .pick c' x' y'⟩ (n7 w0 okA ext N K)) : o.wp P a w K Q := by
 simp only [s7] at hK
 have hr := l5 h hc
 split at hK
 ·rename_i t hv
  have e1 := q9 hr hv
  cases t with
  | true =>
   refine f9 (v := a.eval x) (w' := w) ?_ (hK _ _ E (h.put (l5 h hx) hd))
   simp [execOp, ho, e1, asBool]
  | false =>
   refine f9 (v := a.eval y) (w' := w) ?_ (hK _ _ E (h.put (l5 h hy) hd))
   simp [execOp, ho, e1, asBool]
 ·exact hK.elim
theorem a5c (h : St w0 okA ext N s a w E) {gd : Option (Nat × Bool)} {i : Ins} (hc : q8 P o = some i) (hd : ∀ k, o.dst = some k -> k < N) (hK : s7 P s ⟨o.dst, gd, i⟩ (n7 w0 okA ext N K)) : o.wp P a w K Q := by
 by_cases hn : a0P i = false
 ·refine b3Z h hc hn hd ?_
  cases i <;> first | exact hK | (simp [a0P] at hn)
 ·cases i <;> simp [a0P] at hn
  ·unfold q8 at hc
   split at hc
   case h_3 c x y ho =>
    split at hc
    ·rename_i c' x' y' h1 h2 h3; simp only [Option.some.injEq, Ins.pick.injEq] at hc; obtain ⟨rfl, rfl, rfl⟩ := hc
     exact b0n h h1 h2 h3 ho hd hK
    ·cases hc
   all_goals (exfalso; revert hc; first | (simp; done) | (simp only [Option.map_eq_some_iff]; rintro ⟨_, _, h⟩; cases h) | (repeat' split) <;> (first | (simp; done) | (intro h; obtain ⟨_, _, h⟩ := H6 h; cases h) | (intro h; obtain ⟨_, _, h⟩ := N0 h; cases h) | (intro h; obtain ⟨_, h⟩ := F0 h; cases h) | (simp only [Option.map_eq_some_iff]; rintro ⟨_, _, h⟩; cases h)))
  ·unfold q8 at hc
   split at hc
   case h_25 fo args ts ho =>
    split at hc
    ·rename_i f' as' h1 h2; simp only [Option.some.injEq] at hc
     split at hc
     ·cases hc
     ·simp only [Ins.call.injEq] at hc; obtain ⟨rfl, rfl⟩ := hc
      exact a6s h ho h1 h2 hd hK
    ·cases hc
   all_goals (exfalso; revert hc; first | (simp; done) | (simp only [Option.map_eq_some_iff]; rintro ⟨_, _, h⟩; cases h) | (repeat' split) <;> (first | (simp; done) | (intro h; obtain ⟨_, _, h⟩ := H6 h; cases h) | (intro h; obtain ⟨_, _, h⟩ := N0 h; cases h) | (intro h; obtain ⟨_, h⟩ := F0 h; cases h) | (simp only [Option.map_eq_some_iff]; rintro ⟨_, _, h⟩; cases h)))
  ·unfold q8 at hc
   split at hc
   case h_25 fo args ts ho =>
    split at hc
    ·rename_i f' as' h1 h2; simp only [Option.some.injEq] at hc
     split at hc
     ·simp only [Ins.callx.injEq] at hc; obtain ⟨rfl, rfl⟩ := hc
      exact a6Z h ho h1 h2 hd hK
     ·cases hc
    ·cases hc
   all_goals (exfalso; revert hc; first | (simp; done) | (simp only [Option.map_eq_some_iff]; rintro ⟨_, _, h⟩; cases h) | (repeat' split) <;> (first | (simp; done) | (intro h; obtain ⟨_, _, h⟩ := H6 h; cases h) | (intro h; obtain ⟨_, _, h⟩ := N0 h; cases h) | (intro h; obtain ⟨_, h⟩ := F0 h; cases h) | (simp only [Option.map_eq_some_iff]; rintro ⟨_, _, h⟩; cases h)))
  ·exfalso
   unfold q8 at hc
   split at hc
   case h_25 fo args ts ho =>
    split at hc
    ·grind
    ·cases hc
   all_goals (revert hc; first | (simp; done) | (simp only [Option.map_eq_some_iff]; rintro ⟨_, _, h⟩; cases h) | (repeat' split) <;> (first | (simp; done) | (intro h; obtain ⟨_, _, h⟩ := H6 h; cases h) | (intro h; obtain ⟨_, _, h⟩ := N0 h; cases h) | (intro h; obtain ⟨_, h⟩ := F0 h; cases h) | (simp only [Option.map_eq_some_iff]; rintro ⟨_, _, h⟩; cases h)))
theorem b7S {i : Ins} {f : Opd} {as : List Opd} (hc : q8 P o = some i) (hi : i = .call f as ∨ i = .callx f as) : ∃ fo args ts, o.op = .call { callee := .value fo, args, argTypes := ts } ∧ opd fo = some f ∧ args.toList.mapM opd = some as := by
 unfold q8 at hc
 split at hc
 case h_25 fo args ts ho =>
  split at hc
  ·grind
  ·cases hc
 all_goals (exfalso; rcases hi with hi | hi <;> subst hi <;> revert hc <;> first | (simp; done) | (simp only [Option.map_eq_some_iff]; rintro ⟨_, _, h⟩; cases h) | (repeat' split) <;> (first | (simp; done) | (intro h; obtain ⟨_, _, h⟩ := H6 h; cases h) | (intro h; obtain ⟨_, _, h⟩ := N0 h; cases h) | (intro h; obtain ⟨_, h⟩ := F0 h; cases h) | (simp only [Option.map_eq_some_iff]; rintro ⟨_, _, h⟩; cases h)))
theorem c4d {z : Nat} {y : Opd} {lo hi : Option Opd} (hc : q8 P o = some (.slc z y lo hi)) : ∃ t e inf x lo' hi', P.underlying t = some (.slice e) ∧ P.info? e = some inf ∧ z = inf.size ∧ opd x = some y ∧ o.op = .slice t x lo' hi' none ∧
  ((lo' = none ∧ lo = none) ∨ ∃ u v, lo' = some u ∧ lo = some v ∧ opd u = some v) ∧ ((hi' = none ∧ hi = none) ∨ ∃ u v, hi' = some u ∧ hi = some v ∧ opd u = some v) := by
 unfold q8 at hc
 split at hc
 case h_15 t x lo0 hi0 ho =>
  split at hc
  ·rename_i e inf y' he hy
   obtain ⟨hu, hi'⟩ := V8 he
   split at hc
   ·grind
   ·rename_i l; simp only [Option.map_eq_some_iff] at hc; obtain ⟨l', hl, hc⟩ := hc
    grind
   ·rename_i l; simp only [Option.map_eq_some_iff] at hc; obtain ⟨l', hl, hc⟩ := hc
    grind
   ·all_goals grind
  ·split at hc
   ·exfalso; obtain ⟨_, _, h⟩ := H6 hc; cases h
   ·cases hc
  ·cases hc
 all_goals (exfalso; revert hc; first | (simp; done) | (simp only [Option.map_eq_some_iff]; rintro ⟨_, _, h⟩; cases h) | (repeat' split) <;> (first | (simp; done) | (intro h; obtain ⟨_, _, h⟩ := H6 h; cases h) | (intro h; obtain ⟨_, _, h⟩ := N0 h; cases h) | (intro h; obtain ⟨_, h⟩ := F0 h; cases h) | (simp only [Option.map_eq_some_iff]; rintro ⟨_, _, h⟩; cases h)))
theorem a6J (h : St w0 okA ext N s a w E) {ca : List (Nat × CAnn)} {gd : Option (Nat × Bool)} {i : Ins} (hc : (q8 P o).map (a6W ca o.dst (c4Q P o)) = some i) (hd : ∀ k, o.dst = some k -> k < N) (hK : s7 P s ⟨o.dst, gd, i⟩ (n7 w0 okA ext N K)) : o.wp P a w K Q := by
 simp only [Option.map_eq_some_iff] at hc
 obtain ⟨i0, h0, rfl⟩ := hc
 have same : a6W ca o.dst (c4Q P o) i0 = i0 -> o.wp P a w K Q := fun e => a5c h h0 hd (gd := gd) (by rw [e] at hK; exact hK)
 have called : ∀ f as m, (i0 = .call f as ∨ i0 = .callx f as) -> a6W ca o.dst (c4Q P o) i0 = .callm f as m -> o.wp P a w K Q := fun f as m hi e => by
  obtain ⟨fo, args, ts, ho, h1, h2⟩ := b7S h0 hi
  rw [e] at hK
  exact a6n h ho h1 h2 hd hK
 cases i0 with
 | call f as =>
  cases ht : f7 ca (o.dst.getD 0) with
  | none => exact same (by simp only [a6W, ht])
  | some m => exact called f as m (.inl rfl) (by simp only [a6W, ht])
 | callx f as =>
  cases ht : f7 ca (o.dst.getD 0) with
  | none => exact same (by simp only [a6W, ht])
  | some m => exact called f as m (.inr rfl) (by simp only [a6W, ht])
 | slc z y lo hi =>
  obtain ⟨t, e, inf, x, lo', hi', hu, hinf, rfl, hx, ho, hlo, hhi⟩ := c4d h0
  cases lo with
  | none =>
   cases hi with
   | none => exact same rfl
   | some m =>
    cases ht : f7 ca (o.dst.getD 0) with
    | none => exact same (by simp only [a6W, ht])
    | some _ =>
     have e1 : a6W ca o.dst (c4Q P o) (.slc inf.size y none (some m)) = .trn inf.size y m := by simp only [a6W, ht]
     rw [e1] at hK
     rcases hlo with ⟨rfl, _⟩ | ⟨u, v, _, h1, _⟩
     ·rcases hhi with ⟨_, h1⟩ | ⟨u, v, rfl, h1, h2⟩
      ·cases h1
      ·injection h1 with h1; subst h1
       exact d4z h hx h2 hu hinf ho hd hK
     ·cases h1
  | some l =>
   cases hi with
   | some m => exact same rfl
   | none =>
    cases ht : f7 ca (o.dst.getD 0) with
    | none => exact same (by simp only [a6W, ht])
    | some _ =>
     have e1 : a6W ca o.dst (c4Q P o) (.slc inf.size y (some l) none) = .sfx inf.size y l := by simp only [a6W, ht]
     rw [e1] at hK
     rcases hhi with ⟨rfl, _⟩ | ⟨u, v, _, h1, _⟩
     ·rcases hlo with ⟨_, h1⟩ | ⟨u, v, rfl, h1, h2⟩
      ·cases h1
      ·injection h1 with h1; subst h1
       exact d4t h hx h2 hu hinf ho hd hK
     ·cases h1
 | _ => exact same rfl
theorem Q3 (h : St w0 okA ext N s a w E) {ca : List (Nat × CAnn)} {gd : Option (Nat × Bool)} (hd : ∀ k, o.dst = some k -> k < N) (hK : s7 P s ⟨o.dst, gd, c5f P ca o⟩ (n7 w0 okA ext N K)) : o.wp P a w K Q := by
 unfold c5f at hK
 cases hc : (q8 P o).map (a6W ca o.dst (c4Q P o)) with
 | none =>
  rw [hc] at hK
  simp only [Option.getD_none, s7, c9, AS.ev] at hK
  exact hK.elim
 | some i => rw [hc] at hK; exact a6J h hc hd hK
theorem c8j (h : St w0 okA ext N s a w E) {g : Nat} {b : Bool} (hg : s.tm g = .one (.g (.bool b))) : St w0 okA ext N (s.fix g b) a w E := by
 refine { h with tm := fun t => ?_, bx := h.bx, rw := h.rw }
 simp only [AS.fix]
 by_cases e : t = g
 ·subst e; rw [j6]; have := h.tm t; rw [hg] at this; exact this
 ·rw [l6 _ _ e]; exact h.tm t
theorem und {w : World} {ok : Nat -> Prop} {base : Nat} {E : Env} : VRel w ok base E (.tu []) undef := .tu (us := []) rfl (fun i x u h => by simp at h)
theorem V5 (h : St w0 okA ext N s a w E) {ops : Array Oper} {ca : List (Nat × CAnn)} {gi : GI} (hc : l7 P N ca ops o = some gi) (hK : Q8 P s gi (n7 w0 okA ext N K)) :
  if Region.wanted o (yielded ops a.tmps) = true then o.wp P a w K Q else K (a.put o.dst undef) w := by
 unfold l7 at hc
 split at hc
 ·rename_i gd hdst hgd
  simp only [Option.some.injEq] at hc; subst hc
  have hd : ∀ k, o.dst = some k -> k < N := fun k hk => by rw [hk] at hdst; simpa using hdst
  unfold Q8 at hK
  split at hgd
  ·rename_i hgn
   simp only [Option.some.injEq] at hgd; subst hgd
   have hw : Region.wanted o (yielded ops a.tmps) = true := by simp [Region.wanted, hgn]
   rw [if_pos hw]
   exact Q3 h hd hK
  ·rename_i j want hgn
   simp only [Option.map_eq_some_iff] at hgd
   obtain ⟨g, hg, rfl⟩ := hgd
   simp only [] at hK
   split at hK
   ·rename_i b hb
    have hv := q9 (h.tm g) hb
    have hlt : a.tmps[g]? = some (.bool b) := by
     rw [Array.getD_eq_getD_getElem?] at hv
     cases hx : a.tmps[g]? with
     | none => rw [hx] at hv; cases hv
     | some v => rw [hx] at hv; simp at hv; rw [hv]
    have hy : yielded ops a.tmps j = some b := by simp [yielded, hg, hlt]
    have hw : Region.wanted o (yielded ops a.tmps) = (b == want) := by simp [Region.wanted, hgn, hy]
    rw [hw]
    have h2 := c8j h hb
    cases b <;> cases want <;> simp only [] at hK <;> simp only [beq_self_eq_true, if_true, Bool.false_eq_true, if_false, show (false == true) = false from rfl, show (true == false) = false from rfl]
    ·exact Q3 h2 hd hK
    ·exact hK _ _ E (h2.put und hd)
    ·exact hK _ _ E (h2.put und hd)
    ·exact Q3 h2 hd hK
   ·rename_i hb
    have hv : a.tmps.getD g undef = undef := by
     have h1 := h.tm g
     rw [hb] at h1
     generalize a.tmps.getD g undef = v at h1
     cases h1 with
     | tu h2 h3 =>
      rename_i us
      cases us with
      | nil => rfl
      | cons _ _ => simp at h2
    have hy : yielded ops a.tmps j = none := by
     rw [Array.getD_eq_getD_getElem?] at hv
     unfold yielded
     rw [hg]
     simp only [Option.bind_some]
     cases hx : a.tmps[g]? with
     | none => rfl
     | some v => rw [hx] at hv; simp only [Option.getD_some] at hv; subst hv; rfl
    have hw : Region.wanted o (yielded ops a.tmps) = false := by simp [Region.wanted, hgn, hy]
    rw [hw]
    exact hK _ _ E (h.put und hd)
   ·exact hK.elim
 ·cases hc
theorem S6 {i : GI} {T T' : AS -> Prop} (hT : ∀ s, T s -> T' s) (h : s7 P s i T) : s7 P s i T' := by
 unfold s7 at *
 split at h
 ·all_goals grind
 ·unfold a4K at *
  split at h
  ·obtain ⟨R, h3, hne, h4⟩ := h; exact ⟨R, h3, hne, fun cs r hr => ⟨(h4 cs r hr).1, hT _ (h4 cs r hr).2⟩⟩
  ·exact h
 ·unfold W7 a7s at *
  split at h
  ·split at h
   ·obtain ⟨h0, h1, h2, R, h3, hne, h4⟩ := h; exact ⟨h0, h1, h2, R, h3, hne, fun cs r hr => ⟨(h4 cs r hr).1, (h4 cs r hr).2.1, hT _ (h4 cs r hr).2.2⟩⟩
   ·exact h
  ·exact h
 ·unfold a2t at *
  split at h
  ·obtain ⟨h1, R, h2, h3, h4⟩ := h; exact ⟨h1, R, h2, h3, fun H r hr => ⟨(h4 H r hr).1, hT _ (h4 H r hr).2⟩⟩
  ·exact h
 ·generalize c9 i.dst _ s = r at *
  cases r with
  | ok s => exact hT _ h
  | need p s => exact ⟨h.1, hT _ h.2⟩
  | bad => exact h
theorem H5 {i : GI} {T T' : AS -> Prop} (hT : ∀ s, T s -> T' s) (h : Q8 P s i T) : Q8 P s i T' := by
 unfold Q8 at *
 split at h
 ·exact S6 hT h
 ·split at h
  ·split at h <;> split at h <;> first | exact S6 hT h | exact hT _ h
  ·exact hT _ h
  ·exact h
theorem a2N {ops : Array Oper} {ca : List (Nat × CAnn)} : ∀ (l : List Oper) (gs : List GI), l.mapM (l7 P N ca ops) = some gs -> ∀ (s : AS) (a : Act) (w : World) (E : Env), St w0 okA ext N s a w E ->
  a6M P gs (fun s' => ∀ a' w' E', St w0 okA ext N s' a' w' E' -> Q .normal a' w') s -> wpList P ops Q l a w
 | [], gs, hc, s, a, w, E, h, hK => by
  simp at hc; subst hc; exact hK a w E h
 | o :: l, gs, hc, s, a, w, E, h, hK => by
  simp only [List.mapM_cons, Option.bind_eq_bind, Option.bind_eq_some_iff, Option.pure_def, Option.some.injEq] at hc
  obtain ⟨g, hg, gs', hgs, rfl⟩ := hc
  have h1 := V5 (K := wpList P ops Q l) (Q := Q) h hg (H5 (fun s' hs' a' w' E' hst => a2N l gs' hgs s' a' w' E' hst hs') hK)
  simp only [wpList]
  all_goals grind
end
def Opd.slot : Opd -> List Nat
 | .t n => [n]
 | .b n => [n]
 | .s n => [n]
 | _ => []
def Ins.reads : Ins -> List Nat
 | .mv x => x.slot
 | .box x => x.slot
 | .load _ _ x => x.slot
 | .nilchk x => x.slot
 | .un _ x => x.slot
 | .conv _ x => x.slot
 | .fadr _ x => x.slot
 | .extr x _ => x.slot
 | .len x => x.slot
 | .slen x => x.slot
 | .pick a b c => a.slot ++ (b.slot ++ c.slot)
 | .alloc _ => []
 | .build _ ps => ps.flatMap fun p => p.2.2.slot
 | .bslice _ _ ps => ps.flatMap Opd.slot
 | .store _ a b => a.slot ++ b.slot
 | .bin _ a b => a.slot ++ b.slot
 | .eqs _ _ _ a b => a.slot ++ b.slot
 | .iadr _ a b => a.slot ++ b.slot
 | .idx a b => a.slot ++ b.slot
 | .mnx _ a b => a.slot ++ b.slot
 | .append _ _ _ a b => a.slot ++ b.slot
 | .mkfn _ cs => cs.flatMap Opd.slot
 | .slc _ x l h => x.slot ++ ((l.map Opd.slot).getD [] ++ (h.map Opd.slot).getD [])
 | .call f xs => f.slot ++ xs.flatMap Opd.slot
 | .callx f xs => f.slot ++ xs.flatMap Opd.slot
 | .callm f xs _ => f.slot ++ xs.flatMap Opd.slot
 | .sfx _ a b => a.slot ++ b.slot
 | .trn _ a b => a.slot ++ b.slot
 | .clr _ _ _ a => a.slot
 | .mkr _ _ _ _ a b => a.slot ++ b.slot
 | .mkm _ => []
 | .mup _ a b c => a.slot ++ (b.slot ++ c.slot)
 | .mlk _ _ _ _ a b => a.slot ++ b.slot
 | .mdl _ a b => a.slot ++ b.slot
 | .aadr _ _ a b => a.slot ++ b.slot
 | .ssub x l h => x.slot ++ ((l.map Opd.slot).getD [] ++ (h.map Opd.slot).getD [])
 | .chk x _ => x.slot
def Ins.vl : Ins -> Bool
 | .alloc _ => false
 | .box _ => false
 | .store _ _ _ => false
 | .append _ _ _ _ _ => false
 | .call _ _ => false
 | .callx _ _ => false
 | .callm _ _ _ => false
 | .trn _ _ _ => false
 | .clr _ _ _ _ => false
 | .mkr _ _ _ _ _ _ => false
 | .mkm _ => false
 | .mup _ _ _ _ => false
 | .mdl _ _ _ => false
 | _ => true
def Ins.rds : Ins -> Bool
 | .load _ _ _ => true
 | .len _ => true
 | .iadr _ _ _ => true
 | .fadr _ _ => true
 | .nilchk _ => true
 | .append _ _ _ _ _ => true
 | .store _ _ _ => true
 | .alloc _ => true
 | .box _ => true
 | .call _ _ => true
 | .callx _ _ => true
 | .callm _ _ _ => true
 | .slc _ _ (some _) (some _) => true
 | .sfx _ _ _ => true
 | .trn _ _ _ => true
 | .clr _ _ _ _ => true
 | .mkr _ _ _ _ _ _ => true
 | .mkm _ => true
 | .mup _ _ _ _ => true
 | .mdl _ _ _ => true
 | .mlk _ _ _ _ _ _ => true
 | _ => false
def SRes.map (f : AS -> AS) : SRes -> SRes
 | .ok s => .ok (f s)
 | .need p s => .need p (f s)
 | .bad => .bad
def D2 (d : Option Nat) (e : Bool) (s' r : AS) : AS := ⟨fun t => if d = some t then r.tm t else s'.tm t, if e then r.bx else s'.bx, if e then r.rw else s'.rw⟩
section
variable {P : Program} {s s' : AS} {d : Option Nat}
theorem j5 {x : Opd} (h : ∀ t ∈ x.slot, s'.tm t = s.tm t) : s'.ev x = s.ev x := by
 cases x with
 | t n => exact h n (by simp [Opd.slot])
 | b n => simp only [AS.ev]; rw [h n (by simp [Opd.slot])]
 | s n => simp only [AS.ev]; rw [h n (by simp [Opd.slot])]
 | v x => rfl
 | f n => rfl
theorem a2A {α β : Type} {f g : β -> α -> β} : ∀ {l : List α} {b : β}, (∀ b, ∀ a ∈ l, f b a = g b a) -> l.foldl f b = l.foldl g b
 | [], b, _ => rfl
 | a :: l, b, h => by simp only [List.foldl_cons]; rw [h b a (by simp)]; exact a2A fun b a ha => h b a (by simp [ha])
theorem a1M {α β : Type} {f g : α -> Option β} : ∀ {l : List α}, (∀ a ∈ l, f a = g a) -> l.mapM f = l.mapM g
 | [], _ => rfl
 | a :: l, h => by simp only [List.mapM_cons]; rw [h a (by simp), a1M fun a ha => h a (by simp [ha])]
theorem b9D {α β : Type} {f g : α -> β} {l : List α} (h : ∀ a ∈ l, f a = g a) : l.map f = l.map g := List.map_congr_left h
theorem f0 {e : Bool} {v : Val} (he : e = false) : D2 d e s' (s.put d v) = s'.put d v := by
 subst he
 cases d with
 | none => simp [D2, AS.put]
 | some k =>
  simp only [D2, AS.put, Bool.false_eq_true, if_false, AS.mk.injEq, and_true]
  funext t
  simp only [upd, Option.some.injEq]
  all_goals grind
theorem b0F (hb : s'.bx = s.bx) (hr : s'.rw = s.rw) : s'.view = s.view := by
 cases s; cases s'; simp only at hb hr; subst hb; subst hr
 funext x
 cases x <;> rfl
theorem b0v {op : BinOp} {x y : Val} : L0 s' d op x y = (L0 s d op x y).map (D2 d false s') := by
 unfold L0
 split
 ·split <;> (try split) <;> simp only [SRes.map, f0]
 ·split <;> simp only [SRes.map, f0]
 ·rfl
theorem F1 {agg : Bool} {n : Nat} {cs : List Cel} : Q0 s' d agg n cs = (Q0 s d agg n cs).map (D2 d false s') := by
 unfold Q0
 split
 ·simp only [SRes.map, f0]
 ·cases cs <;> simp only [SRes.map, f0]
theorem N4 {i : Ins} (hv : i.vl = true) (ht : ∀ t ∈ i.reads, s'.tm t = s.tm t) (hb : i.rds = true -> s'.bx = s.bx ∧ s'.rw = s.rw) : c9 d i s' = (c9 d i s).map (D2 d false s') := by
 cases i with
 | mv x => simp only [c9, j5 (x := x) ht, SRes.map, f0]
 | pick a b c => rfl
 | alloc z => cases hv
 | box x => cases hv
 | store n a b => cases hv
 | append E z b x y => cases hv
 | call f xs => cases hv
 | callx f xs => cases hv
 | callm f xs m => cases hv
 | trn z x y => cases hv
 | clr E z zero x => cases hv
 | mkr E z b zero n c => cases hv
 | mkm kc => cases hv
 | mup kc x y z => cases hv
 | mdl kc x y => cases hv
 | mlk kc zero ok zn x y =>
  have h1 := j5 (x := x) (s := s) (s' := s') fun t h => ht t (by simp [Ins.reads, h])
  have h2 := j5 (x := y) (s := s) (s' := s') fun t h => ht t (by simp [Ins.reads, h])
  obtain ⟨h3, h4⟩ := hb rfl
  simp only [c9, h1, h2, h3, h4]
  split
  ·split
   ·split <;> simp only [SRes.map, f0]
   ·rfl
  ·split <;> simp only [SRes.map, f0]
  ·rfl
 | sfx z x y =>
  have h1 := j5 (x := x) (s := s) (s' := s') fun t h => ht t (by simp [Ins.reads, h])
  have h2 := j5 (x := y) (s := s) (s' := s') fun t h => ht t (by simp [Ins.reads, h])
  obtain ⟨h3, h4⟩ := hb rfl
  simp only [c9, h1, h2, h3, h4]
  split
  ·split
   ·split <;> simp only [SRes.map, f0]
   ·rfl
  ·rfl
 | build zero ps =>
  have h1 : ∀ p ∈ ps, s'.ev p.2.2 = s.ev p.2.2 := fun p hp => j5 fun t h => ht t (List.mem_flatMap.2 ⟨p, hp, h⟩)
  simp only [c9]
  rw [a2A (fun b a ha => by rw [h1 a ha])]
  generalize ps.foldl _ _ = r
  cases r <;> simp only [SRes.map, f0]
 | bslice z n ps =>
  have h1 : ∀ p ∈ ps, s'.ev p = s.ev p := fun p hp => j5 fun t h => ht t (List.mem_flatMap.2 ⟨p, hp, h⟩)
  simp only [c9]
  rw [a1M (fun a ha => by rw [h1 a ha])]
  generalize (ps.mapM fun p => t6 (s.ev p)) = r
  cases r with
  | none => rfl
  | some es => simp only []; split <;> simp only [SRes.map, f0]
 | load a n x =>
  have h1 := j5 (x := x) ht
  obtain ⟨h2, h3⟩ := hb rfl
  simp only [c9, h1, h2, h3]
  split
  ·split
   ·exact F1
   ·rfl
  ·exact F1
  ·split
   ·split
    ·split
     ·exact F1
     ·rfl
    ·rfl
   ·rfl
  ·rfl
 | nilchk x =>
  have h1 := j5 (x := x) ht
  obtain ⟨h2, h3⟩ := hb rfl
  simp only [c9, h1, h2, h3]
  split
  ·simp only [SRes.map, f0]
  ·simp only [SRes.map, f0]
  ·split
   ·split <;> simp only [SRes.map, f0]
   ·rfl
  ·rfl
 | bin op x y =>
  have h1 := j5 (x := x) (s := s) (s' := s') fun t h => ht t (by simp [Ins.reads, h])
  have h2 := j5 (x := y) (s := s) (s' := s') fun t h => ht t (by simp [Ins.reads, h])
  simp only [c9, h1, h2]
  exact b0v
 | eqs b g ks x y =>
  have h1 := j5 (x := x) (s := s) (s' := s') fun t h => ht t (by simp [Ins.reads, h])
  have h2 := j5 (x := y) (s := s) (s' := s') fun t h => ht t (by simp [Ins.reads, h])
  simp only [c9, h1, h2]
  split <;> simp only [SRes.map, f0]
 | un op x =>
  have h1 := j5 (x := x) ht
  simp only [c9, h1]
  split <;> simp only [SRes.map, f0]
 | conv k x =>
  have h1 := j5 (x := x) ht
  simp only [c9, h1]
  split <;> simp only [SRes.map, f0]
 | mkfn f cs =>
  have h1 : ∀ p ∈ cs, s'.ev p = s.ev p := fun p hp => j5 fun t h => ht t (List.mem_flatMap.2 ⟨p, hp, h⟩)
  simp only [c9]
  rw [a1M (fun a ha => by rw [h1 a ha])]
  generalize (cs.mapM fun p => match s.ev p with | .one (.bx k off) => some (Cel.bx k off) | .one (.g v) => some (Cel.g v) | _ => none) = r
  cases r <;> simp only [SRes.map, f0]
 | slc z x lo hi =>
  have h1 := j5 (x := x) (s := s) (s' := s') fun t h => ht t (by simp [Ins.reads, h])
  have h2 : lo.map s'.ev = lo.map s.ev := by
   cases lo with
   | none => rfl
   | some l => simp only [Option.map_some]; rw [j5 (x := l) (s := s) (s' := s') fun t h => ht t (by simp [Ins.reads, h])]
  have h3 : hi.map s'.ev = hi.map s.ev := by
   cases hi with
   | none => rfl
   | some l => simp only [Option.map_some]; rw [j5 (x := l) (s := s) (s' := s') fun t h => ht t (by simp [Ins.reads, h])]
  cases lo with
  | none =>
   simp only [c9, h1, h2, h3]
   simp only [Option.map_none]
   split <;> (try split) <;> first | contradiction | simp only [SRes.map, f0]
  | some l =>
   cases hi with
   | none =>
    simp only [c9, h1, h2, h3]
    simp only [Option.map_none, Option.map_some]
    split <;> (try split) <;> first | contradiction | simp only [SRes.map, f0]
   | some m =>
    obtain ⟨h4, h5⟩ := hb rfl
    simp only [c9, h1, h2, h3, h5]
    split <;> (try split) <;> (try split) <;> simp only [SRes.map, f0]
 | ssub x lo hi =>
  have h1 := j5 (x := x) (s := s) (s' := s') fun t h => ht t (by simp [Ins.reads, h])
  have h2 : lo.map s'.ev = lo.map s.ev := by
   cases lo with
   | none => rfl
   | some l => simp only [Option.map_some]; rw [j5 (x := l) (s := s) (s' := s') fun t h => ht t (by simp [Ins.reads, h])]
  have h3 : hi.map s'.ev = hi.map s.ev := by
   cases hi with
   | none => rfl
   | some l => simp only [Option.map_some]; rw [j5 (x := l) (s := s) (s' := s') fun t h => ht t (by simp [Ins.reads, h])]
  simp only [c9, h1, h2, h3]
  split <;> simp only [SRes.map, f0]
 | aadr n z x i =>
  have h1 := j5 (x := x) (s := s) (s' := s') fun t h => ht t (by simp [Ins.reads, h])
  have h2 := j5 (x := i) (s := s) (s' := s') fun t h => ht t (by simp [Ins.reads, h])
  simp only [c9, h1, h2]
  split <;> simp only [SRes.map, f0]
 | fadr o x =>
  have h1 := j5 (x := x) ht
  obtain ⟨h2, h3⟩ := hb rfl
  simp only [c9, h1, h2, h3]
  split
  ·simp only [SRes.map, f0]
  ·simp only [SRes.map, f0]
  ·split
   ·split <;> simp only [SRes.map, f0]
   ·rfl
  ·rfl
 | iadr z x i =>
  have h1 := j5 (x := x) (s := s) (s' := s') fun t h => ht t (by simp [Ins.reads, h])
  have h2 := j5 (x := i) (s := s) (s' := s') fun t h => ht t (by simp [Ins.reads, h])
  obtain ⟨h3, h4⟩ := hb rfl
  simp only [c9, h1, h2, h3, h4]
  split
  ·split <;> simp only [SRes.map, f0]
  ·split
   ·split <;> simp only [SRes.map, f0]
   ·rfl
  ·split
   ·split <;> simp only [SRes.map, f0]
   ·rfl
  ·rfl
 | idx x i =>
  have h1 := j5 (x := x) (s := s) (s' := s') fun t h => ht t (by simp [Ins.reads, h])
  have h2 := j5 (x := i) (s := s) (s' := s') fun t h => ht t (by simp [Ins.reads, h])
  simp only [c9, h1, h2]
  split <;> simp only [SRes.map, f0]
 | extr x n =>
  have h1 := j5 (x := x) ht
  simp only [c9, h1]
  split
  ·split <;> simp only [SRes.map, f0]
  ·rfl
 | chk x key =>
  have h1 := j5 (x := x) ht
  cases key with
  | none => simp only [c9, h1]; split <;> simp only [SRes.map, f0]
  | some k => simp only [c9, h1]; split <;> (try split) <;> simp only [SRes.map, f0]
 | len x =>
  have h1 := j5 (x := x) ht
  obtain ⟨h2, h3⟩ := hb rfl
  simp only [c9, h1, h2, h3]
  split
  ·simp only [SRes.map, f0]
  ·simp only [SRes.map, f0]
  ·split
   ·split <;> simp only [SRes.map, f0]
   ·rfl
  ·split
   ·split <;> simp only [SRes.map, f0]
   ·rfl
  ·rfl
 | slen x =>
  have h1 := j5 (x := x) ht
  simp only [c9, h1]
  split <;> simp only [SRes.map, f0]
 | mnx b x y =>
  have h1 := j5 (x := x) (s := s) (s' := s') fun t h => ht t (by simp [Ins.reads, h])
  have h2 := j5 (x := y) (s := s) (s' := s') fun t h => ht t (by simp [Ins.reads, h])
  simp only [c9, h1, h2]
  split <;> simp only [SRes.map, f0]
theorem c0N {r : SRes} {f : AS -> AS} {T : AS -> Prop} : q6 (r.map f) T ↔ q6 r (fun s => T (f s)) := by
 cases r <;> exact Iff.rfl
theorem a1m {i : Ins} (hv : i.vl = true) : c9 d i s = (c9 d i s).map (D2 d false s) := N4 hv (fun _ _ => rfl) (fun _ => ⟨rfl, rfl⟩)
theorem C2 {k : Nat} {v u : Val} (h : d ≠ some k) : (s.put (some k) v).put d u = (s.put d u).put (some k) v := by
 cases d with
 | none => rfl
 | some j =>
  have hj : j ≠ k := fun e => h (by rw [e])
  simp only [AS.put, AS.mk.injEq, and_true]
  funext t
  simp only [upd]
  all_goals grind
theorem B0 {k : Nat} {v : Val} {x : Opd} (h : k ∉ x.slot) : (s.put (some k) v).ev x = s.ev x := j5 fun t ht => l6 s.tm v fun e => h (by subst e; exact ht)
theorem M7 {k : Nat} {v : Val} : (s.put (some k) v).bx = s.bx := rfl
theorem T3 {k : Nat} {v : Val} : (s.put (some k) v).rw = s.rw := rfl
theorem c6q {k z : Nat} {v : Val} : (s.put (some k) v).src z = s.src z := by
 funext x; rfl
theorem a7I {k : Nat} {v : Val} : (s.put (some k) v).view = s.view := b0F rfl rfl
theorem K4 {α : Type} {f : Nat -> α} {k j : Nat} {v u : α} (h : j ≠ k) : upd (upd f k v) j u = upd (upd f j u) k v := by
 funext t
 simp only [upd]
 all_goals grind
theorem b2q {i : Ins} {k : Nat} {v : Val} (hk : k ∉ i.reads) (hd : d ≠ some k) : c9 d i (s.put (some k) v) = (c9 d i s).map (·.put (some k) v) := by
 by_cases hv : i.vl = true
 ·rw [N4 hv (s := s) (s' := s.put (some k) v) (fun t ht => l6 s.tm v (k := k) (j := t) fun e => hk (by subst e; exact ht)) (fun _ => ⟨rfl, rfl⟩)]
  have h1 : c9 d i s = _ := a1m (s := s) (d := d) hv
  have key : ∀ r, D2 d false (s.put (some k) v) (D2 d false s r) = (D2 d false s r).put (some k) v := by
   intro r
   simp only [D2, AS.put, Bool.false_eq_true, if_false, AS.mk.injEq, and_true]
   funext t
   simp only [upd]
   by_cases e : d = some t
   ·have : t ≠ k := fun e' => hd (by rw [e, e'])
    rw [if_pos e, if_pos e, if_neg this]
   ·rw [if_neg e, if_neg e]
  revert h1
  generalize c9 d i s = r
  intro h1
  cases r with
  | bad => rfl
  | ok r => simp only [SRes.map, SRes.ok.injEq] at h1 ⊢; rw [h1]; exact key _
  | need p r => simp only [SRes.map, SRes.need.injEq, true_and] at h1 ⊢; rw [h1]; exact key _
 ·cases i with
  | alloc z =>
   simp only [c9, M7]
   cases d with
   | none => rfl
   | some j =>
    have hj : j ≠ k := fun e => hd (by rw [e])
    simp only []
    split
    ·split
     ·rfl
     ·simp only [SRes.map, AS.put, K4 hj]
    ·rfl
  | box x =>
   simp only [c9, M7, B0 (x := x) hk]
   cases d with
   | none => rfl
   | some j =>
    have hj : j ≠ k := fun e => hd (by rw [e])
    cases t6 (s.ev x) with
    | none => rfl
    | some cs =>
     simp only []
     split
     ·split
      ·rfl
      ·simp only [SRes.map, AS.put, K4 hj]
     ·rfl
  | store n a b =>
   have ha : k ∉ a.slot := fun h => hk (by simp [Ins.reads, h])
   have hb : k ∉ b.slot := fun h => hk (by simp [Ins.reads, h])
   have hput : ∀ (bx : Nat -> Option (List Cel)) (rw : Nat -> Option Row), ({ s.put (some k) v with bx := bx, rw := rw } : AS).put d .any = (({ s with bx := bx, rw := rw } : AS).put d .any).put (some k) v := fun bx rw => C2 (s := { s with bx := bx, rw := rw }) hd
   simp only [c9, M7, T3, B0 ha, B0 hb]
   split
   ·split
    ·split
     ·simp only [SRes.map, SRes.need.injEq, true_and]; exact hput _ _
     ·rfl
    ·rfl
   ·split
    ·split
     ·split
      ·simp only [SRes.map, SRes.need.injEq, true_and]; exact hput _ _
      ·rfl
     ·rfl
    ·rfl
   ·rfl
  | append E z b x y =>
   have ha : k ∉ x.slot := fun h => hk (by simp [Ins.reads, h])
   have hb : k ∉ y.slot := fun h => hk (by simp [Ins.reads, h])
   have hput : ∀ (bx : Nat -> Option (List Cel)) (rw : Nat -> Option Row) (u : Val), ({ s.put (some k) v with bx := bx, rw := rw } : AS).put d u = (({ s with bx := bx, rw := rw } : AS).put d u).put (some k) v := fun bx rw u => C2 (s := { s with bx := bx, rw := rw }) hd
   simp only [c9, M7, T3, B0 ha, B0 hb, c6q]
   split
   ·split
    ·split
     ·simp only [SRes.map, SRes.need.injEq, true_and]; exact hput _ _ _
     ·rfl
    ·rfl
   ·rfl
  | call f xs => rfl
  | callx f xs => rfl
  | callm f xs m => rfl
  | trn z x y =>
   have ha : k ∉ x.slot := fun h => hk (by simp [Ins.reads, h])
   have hb : k ∉ y.slot := fun h => hk (by simp [Ins.reads, h])
   have hput : ∀ (bx : Nat -> Option (List Cel)) (rw : Nat -> Option Row) (u : Val), ({ s.put (some k) v with bx := bx, rw := rw } : AS).put d u = (({ s with bx := bx, rw := rw } : AS).put d u).put (some k) v := fun bx rw u => C2 (s := { s with bx := bx, rw := rw }) hd
   simp only [c9, M7, T3, B0 ha, B0 hb]
   split
   ·split
    ·split
     ·simp only [SRes.map, SRes.need.injEq, true_and]; exact hput _ _ _
     ·rfl
    ·rfl
   ·rfl
  | clr E z zero x =>
   have ha : k ∉ x.slot := fun h => hk h
   have hput : ∀ (bx : Nat -> Option (List Cel)) (rw : Nat -> Option Row) (u : Val), ({ s.put (some k) v with bx := bx, rw := rw } : AS).put d u = (({ s with bx := bx, rw := rw } : AS).put d u).put (some k) v := fun bx rw u => C2 (s := { s with bx := bx, rw := rw }) hd
   simp only [c9, M7, T3, B0 ha]
   split
   ·split
    ·split
     ·simp only [SRes.map, SRes.ok.injEq]; exact hput _ _ _
     ·rfl
    ·rfl
   ·rfl
  | mkm kc =>
   simp only [c9, M7, T3]
   cases d with
   | none => rfl
   | some j =>
    have hj : j ≠ k := fun e => hd (by rw [e])
    simp only []
    split
    ·split
     ·simp only [SRes.map, AS.put, K4 hj]
     ·rfl
    ·rfl
  | mdl kc x y =>
   have ha : k ∉ x.slot := fun h => hk (by simp [Ins.reads, h])
   have hb : k ∉ y.slot := fun h => hk (by simp [Ins.reads, h])
   have hput : ∀ (bx : Nat -> Option (List Cel)) (rw : Nat -> Option Row) (u : Val), ({ s.put (some k) v with bx := bx, rw := rw } : AS).put d u = (({ s with bx := bx, rw := rw } : AS).put d u).put (some k) v := fun bx rw u => C2 (s := { s with bx := bx, rw := rw }) hd
   simp only [c9, M7, T3, B0 ha, B0 hb]
   split
   ·split
    ·split
     ·simp only [SRes.map, SRes.ok.injEq]; exact hput _ _ _
     ·rfl
    ·rfl
   ·rfl
  | mup kc x y z =>
   have ha : k ∉ x.slot := fun h => hk (by simp [Ins.reads, h])
   have hb : k ∉ y.slot := fun h => hk (by simp [Ins.reads, h])
   have hc : k ∉ z.slot := fun h => hk (by simp [Ins.reads, h])
   have hput : ∀ (bx : Nat -> Option (List Cel)) (rw : Nat -> Option Row) (u : Val), ({ s.put (some k) v with bx := bx, rw := rw } : AS).put d u = (({ s with bx := bx, rw := rw } : AS).put d u).put (some k) v := fun bx rw u => C2 (s := { s with bx := bx, rw := rw }) hd
   simp only [c9, M7, T3, B0 ha, B0 hb, B0 hc]
   split
   ·split
    ·split
     ·simp only [SRes.map, SRes.ok.injEq]; exact hput _ _ _
     ·rfl
    ·rfl
   ·rfl
  | mkr E z b zero n c =>
   have ha : k ∉ n.slot := fun h => hk (by simp [Ins.reads, h])
   have hb : k ∉ c.slot := fun h => hk (by simp [Ins.reads, h])
   simp only [c9, M7, T3, B0 ha, B0 hb]
   cases d with
   | none => rfl
   | some j =>
    have hj : j ≠ k := fun e => hd (by rw [e])
    split
    ·split
     ·split
      ·rename_i e _ _ _ _ _
       injection e with e
       subst e
       simp only [SRes.map, AS.put, K4 hj]
      ·rfl
     ·rfl
    ·rfl
  | _ => exact absurd rfl hv
theorem a6d {k : Nat} {v : Val} {xs : List Opd} (h : k ∉ xs.flatMap Opd.slot) : xs.map (s.put (some k) v).ev = xs.map s.ev :=
 b9D fun x hx => B0 fun hk => h (List.mem_flatMap.2 ⟨x, hx, hk⟩)
theorem b1f {i : GI} {k : Nat} {v : Val} (hk : k ∉ i.ins.reads) (hd : i.dst ≠ some k) {T : AS -> Prop} : s7 P (s.put (some k) v) i T ↔ s7 P s i (fun s1 => T (s1.put (some k) v)) := by
 obtain ⟨d, gd, ins⟩ := i
 simp only at hk hd
 have gen : q6 (c9 d ins (s.put (some k) v)) T ↔ q6 (c9 d ins s) (fun s1 => T (s1.put (some k) v)) := by
  rw [b2q hk hd, c0N]
 cases ins with
 | pick c x y =>
  have h1 : k ∉ c.slot := fun h => hk (by simp [Ins.reads, h])
  have h2 : k ∉ x.slot := fun h => hk (by simp [Ins.reads, h])
  have h3 : k ∉ y.slot := fun h => hk (by simp [Ins.reads, h])
  simp only [s7, B0 h1, B0 h2, B0 h3]
  split
  ·split <;> rw [C2 hd]
  ·exact Iff.rfl
 | call f xs =>
  have h1 : k ∉ f.slot := fun h => hk (by simp [Ins.reads, h])
  have h2 : k ∉ xs.flatMap Opd.slot := fun h => hk (List.mem_append_right _ h)
  simp only [s7, B0 h1, a6d h2]
  unfold a4K
  split
  ·rw [a7I]
   simp only [C2 hd]
  ·exact Iff.rfl
 | callx f xs =>
  have h1 : k ∉ f.slot := fun h => hk (by simp [Ins.reads, h])
  have h2 : k ∉ xs.flatMap Opd.slot := fun h => hk (List.mem_append_right _ h)
  have hput : ∀ (bx : Nat -> Option (List Cel)) (u : Val), ({ s.put (some k) v with bx := bx } : AS).put d u = (({ s with bx := bx } : AS).put d u).put (some k) v := fun bx u => C2 (s := { s with bx := bx }) hd
  simp only [s7, B0 h1, a6d h2]
  unfold W7
  split
  ·unfold a7s
   simp only [M7]
   split
   ·have hvc : (s.put (some k) v).viewC = s.viewC := by funext c; cases c <;> rfl
    rw [a7I, hvc]
    simp only [hput]
   ·exact Iff.rfl
  ·exact Iff.rfl
 | callm f xs m =>
  have h1 : k ∉ f.slot := fun h => hk (by simp [Ins.reads, h])
  have h2 : k ∉ xs.flatMap Opd.slot := fun h => hk (List.mem_append_right _ h)
  simp only [s7, B0 h1, a6d h2]
  unfold a2t
  split
  ·have e1 : okM (s.put (some k) v) m = okM s m := rfl
   have e2 : (s.put (some k) v).hp m = s.hp m := by
    have : (s.put (some k) v).passC m = s.passC m := by funext c; cases c <;> rfl
    simp only [AS.hp, this, M7, T3]
   have e3 : (s.put (some k) v).passV m = s.passV m := by
    have : (s.put (some k) v).passC m = s.passC m := by funext c; cases c <;> rfl
    funext x; cases x <;> simp only [AS.passV, this]
   have e4 : ∀ H r, ((s.put (some k) v).after m H).put d ((s.put (some k) v).backV m r) = (((s.after m H).put d (s.backV m r)).put (some k) v) := fun H r => by
    have hb : (s.put (some k) v).backC m = s.backC m := by funext c; cases c <;> rfl
    have hb2 : (s.put (some k) v).backV m = s.backV m := by funext x; cases x <;> simp only [AS.backV, hb]
    have h3 : (s.put (some k) v).after m H = (s.after m H).put (some k) v := by
     have p1 : ∀ l b, a5N (s.put (some k) v) m l b = a5N s m l b := by
      intro l; induction l with
      | nil => intro b; rfl
      | cons p l ih => intro b; obtain ⟨j, cs⟩ := p; simp only [a5N, ih, hb]
     have p2 : ∀ l b, a5Z (s.put (some k) v) m l b = a5Z s m l b := by
      intro l; induction l with
      | nil => intro b; rfl
      | cons p l ih => intro b; obtain ⟨j, cs⟩ := p; simp only [a5Z, ih]; rfl
     simp only [AS.after, p1, p2, M7, T3]; rfl
    rw [hb2, h3, C2 hd]
   rw [e1, e2, e3]
   simp only [e4]
  ·exact Iff.rfl
 | _ => exact gen
theorem c1C {g : Nat} {b : Bool} (h : s.tm g = .one (.g (.bool b))) : s.fix g b = s := by
 have : upd s.tm g (bv b) = s.tm := by
  funext t
  by_cases e : t = g
  ·rw [e, j6, h]
  ·rw [l6 _ _ e]
 unfold AS.fix
 rw [this]
theorem Q4 {i : GI} {T : AS -> Prop} : Q8 P s i T ↔ (i.gd = none ∧ s7 P s i T) ∨ ∃ g want b, i.gd = some (g, want) ∧ c7n (s.tm g) = some b ∧ ((b = some want ∧ s7 P s i T) ∨ (b ≠ some want ∧ T (s.put i.dst (.tu [])))) := by
 unfold Q8
 cases hg : i.gd with
 | none => simp
 | some p =>
  obtain ⟨g, want⟩ := p
  simp only [reduceCtorEq, false_and, false_or]
  constructor
  ·intro h
   split at h
   ·rename_i b hb
    refine ⟨g, want, some b, rfl, by rw [hb]; rfl, ?_⟩
    have e1 := c1C (s := s) (g := g) (b := b) hb
    grind
   ·rename_i hb
    exact ⟨g, want, none, rfl, by rw [hb]; rfl, .inr ⟨by simp, h⟩⟩
   ·exact h.elim
  ·rintro ⟨g', want', b, he, hb, h⟩
   simp only [Option.some.injEq, Prod.mk.injEq] at he
   obtain ⟨rfl, rfl⟩ := he
   unfold c7n at hb
   split at hb
   ·rename_i b' hb'
    simp only [Option.some.injEq] at hb; subst hb
    have e1 := c1C (s := s) (g := g) (b := b') hb'
    grind
   ·all_goals grind
   ·cases hb
def GI.reads (g : GI) : List Nat := g.ins.reads ++ (match g.gd with | some (k, _) => [k] | none => [])
abbrev Part := Option (Option (Nat × Bool))
def Part.apart : Part -> Part -> Bool
 | none, _ => true
 | _, none => true
 | some (some a), some (some b) => decide (a.1 ≠ b.1) && (!a.2 || decide (b.1 ≠ RWK))
 | _, _ => false
def Stay (w : Part) (s s1 : AS) : Prop :=
 match w with
 | none => s1.bx = s.bx ∧ s1.rw = s.rw
 | some none => True
 | some (some k) => (∀ j, j ≠ k.1 -> s1.bx j = s.bx j) ∧ (k.1 ≠ RWK -> k.2 = false -> s1.rw = s.rw)
def Alike (r : Part) (s s1 : AS) : Prop :=
 match r with
 | none => True
 | some none => s1.bx = s.bx ∧ s1.rw = s.rw
 | some (some k) => s1.bx k.1 = s.bx k.1 ∧ (k.1 = RWK -> s1.rw = s.rw)
theorem Stay.alike {w r : Part} {s1 : AS} (h : Stay w s s1) (ha : w.apart r = true) : Alike r s s1 := by
 cases r with
 | none => trivial
 | some r =>
  cases w with
  | none => cases r with
   | none => exact h
   | some k => exact ⟨congrFun h.1 k.1, fun _ => h.2⟩
  | some w =>
   cases w with
   | none => cases r <;> cases ha
   | some a => cases r with
    | none => cases ha
    | some b =>
     simp only [Part.apart, Bool.and_eq_true, decide_eq_true_eq, Bool.or_eq_true, Bool.not_eq_true'] at ha
     obtain ⟨hab, hr⟩ := ha
     exact ⟨h.1 b.1 (fun e => hab e.symm), fun e => h.2 (fun e2 => hab (e2.trans e.symm)) (hr.resolve_right fun h2 => h2 e)⟩
theorem Alike.symm {r : Part} {s1 : AS} (h : Alike r s s1) : Alike r s1 s := by
 cases r with
 | none => trivial
 | some r => cases r with
  | none => exact ⟨h.1.symm, h.2.symm⟩
  | some k => exact ⟨h.1.symm, fun e => (h.2 e).symm⟩
def Ins.adr : Ins -> Option Opd
 | .load _ _ x => some x
 | .fadr _ x => some x
 | .nilchk x => some x
 | .mlk _ _ _ _ x _ => some x
 | .iadr _ x _ => some x
 | .len x => some x
 | .store _ x _ => some x
 | .callx _ (x :: _) => some x
 | _ => none
def d5A : Option Nat -> Val -> Prop
 | none, .one (.os _ _ _) => False
 | none, .one (.ws _ _ _ _) => False
 | none, .one (.bx _ _) => False
 | none, .one (.ow _ _) => False
 | none, .one (.op _ _ _ _) => False
 | none, .one (.mp _) => False
 | none, _ => True
 | some k, .one (.bx j _) => j = k
 | some k, .one (.op _ _ _ _) => k = RWK
 | some _, _ => False
abbrev Lim := Option (Option Nat)
def J3 (s : AS) (i : Ins) : Lim -> Prop
 | none => True
 | some l => match i.adr with
  | some x => d5A l (s.ev x)
  | none => False
def rdP (d : Option Nat) (i : Ins) (l : Lim) : Part :=
 match i with
 | .alloc _ => some (d.map fun k => (k, false))
 | .box _ => some (d.map fun k => (k, false))
 | i => if i.rds then (match l with | none => some none | some none => none | some (some k) => some (some (k, false))) else none
def wrP (d : Option Nat) (i : Ins) (l : Lim) : Part :=
 match i with
 | .alloc _ => some (d.map fun k => (k, false))
 | .box _ => some (d.map fun k => (k, false))
 | .store _ _ _ => (match l with | some (some k) => if k = RWK then some none else some (some (k, false)) | _ => some none)
 | .callx _ _ => (match l with | some (some k) => some (some (k, false)) | _ => some none)
 | .append _ _ _ _ _ => some (some (RWK, false))
 | .callm _ _ m => (match m.obs with | [k] => some (some (k, true)) | _ => some none)
 | .trn _ _ _ => some none
 | .clr _ _ _ _ => some none
 | .mkr _ _ _ _ _ _ => some (some (RWK, false))
 | .mkm _ => some none
 | .mup _ _ _ _ => some none
 | .mdl _ _ _ => some none
 | _ => none
theorem V9 {i : Ins} {l : Lim} (ht : ∀ t ∈ i.reads, s'.tm t = s.tm t) : J3 s' i l ↔ J3 s i l := by
 cases l with
 | none => exact Iff.rfl
 | some l =>
  unfold J3
  cases hx : i.adr with
  | none => exact Iff.rfl
  | some x =>
   have : s'.ev x = s.ev x := j5 fun t h => ht t (by
    cases i <;> simp only [Ins.adr, Option.some.injEq, reduceCtorEq] at hx <;> (try subst hx) <;> simp only [Ins.reads, List.mem_append] <;> (try exact h) <;> (try exact .inl h)
    rename_i f xs
    cases xs with
    | nil => cases hx
    | cons y xs => simp only [Option.some.injEq] at hx; subst hx; exact .inr (by simp [h]))
   simp only [this]
theorem a5u {i : Ins} {l : Lim} (hv : i.vl = true) (hl : J3 s i l) (ht : ∀ t ∈ i.reads, s'.tm t = s.tm t) (hb : Alike (rdP d i l) s s') : c9 d i s' = (c9 d i s).map (D2 d false s') := by
 by_cases hr : i.rds = true
 ·cases l with
  | none =>
   refine N4 hv ht fun _ => ?_
   cases i with
   | slc z x lo hi => cases lo <;> cases hi <;> first | exact hb | (cases hr; done)
   | _ => first | (cases hv; done) | exact hb | (cases hr; done)
  | some l =>
   cases i with
   | load ag n x =>
    have h1 := j5 (x := x) ht
    simp only [J3, Ins.adr] at hl
    simp only [c9, h1]
    generalize s.ev x = v at hl
    cases v with
    | one c =>
     cases c with
     | bx k off => cases l with
      | none => exact hl.elim
      | some j =>
       have hj : k = j := hl
       subst hj
       have hb' : s'.bx k = s.bx k := hb.1
       simp only [hb']
       split
       ·exact F1
       ·rfl
     | ep cs => exact F1
     | op k ver i off => cases l with
      | none => exact hl.elim
      | some j =>
       have hj : j = RWK := hl
       have hb' : s'.rw = s.rw := hb.2 hj
       simp only [hb']
       split
       ·split
        ·split
         ·exact F1
         ·rfl
        ·rfl
       ·rfl
     | _ => rfl
    | _ => rfl
   | nilchk x =>
    have h1 := j5 (x := x) ht
    simp only [J3, Ins.adr] at hl
    simp only [c9, h1]
    generalize s.ev x = v at hl
    cases v with
    | one c =>
     cases c with
     | op k ver i off => cases l with
      | none => exact hl.elim
      | some j =>
       have hj : j = RWK := hl
       have hb' : s'.rw = s.rw := hb.2 hj
       simp only [hb']
       split
       ·split
        ·simp only [SRes.map, f0]
        ·rfl
       ·rfl
     | bx k off => simp only [SRes.map, f0]
     | ep cs => simp only [SRes.map, f0]
     | _ => rfl
    | _ => rfl
   | fadr o x =>
    have h1 := j5 (x := x) ht
    simp only [J3, Ins.adr] at hl
    simp only [c9, h1]
    generalize s.ev x = v at hl
    cases v with
    | one c =>
     cases c with
     | op k ver i off => cases l with
      | none => exact hl.elim
      | some j =>
       have hj : j = RWK := hl
       have hb' : s'.rw = s.rw := hb.2 hj
       simp only [hb']
       split
       ·split
        ·simp only [SRes.map, f0]
        ·rfl
       ·rfl
     | bx k off => simp only [SRes.map, f0]
     | ep cs => simp only [SRes.map, f0]
     | _ => rfl
    | _ => rfl
   | iadr z x i =>
    have h1 := j5 (x := x) (s := s) (s' := s') fun t h => ht t (by simp [Ins.reads, h])
    have h2 := j5 (x := i) (s := s) (s' := s') fun t h => ht t (by simp [Ins.reads, h])
    simp only [J3, Ins.adr] at hl
    simp only [c9, h1, h2]
    generalize s.ev x = v at hl
    cases v with
    | one c =>
     cases c with
     | ow k ver => cases l <;> exact hl.elim
     | os k ver lo => cases l <;> exact hl.elim
     | ws k ver lo hi => cases l <;> exact hl.elim
     | sl fr z' es =>
      generalize s.ev i = u
      split
      ·split <;> simp only [SRes.map, f0]
      ·rename_i heq; cases heq
      ·rename_i heq; cases heq
      ·rfl
     | _ => rfl
    | _ => rfl
   | len x =>
    have h1 := j5 (x := x) ht
    simp only [J3, Ins.adr] at hl
    simp only [c9, h1]
    generalize s.ev x = v at hl
    cases v with
    | one c =>
     cases c with
     | ow k ver => cases l <;> exact hl.elim
     | os k ver lo => cases l <;> exact hl.elim
     | ws k ver lo hi => cases l <;> exact hl.elim
     | sl fr z' es => simp only [SRes.map, f0]
     | g v => cases v <;> simp only [SRes.map, f0]
     | _ => rfl
    | _ => rfl
   | sfx z x y => exact hl.elim
   | mlk kc zero ok zn x y =>
    have h1 := j5 (x := x) (s := s) (s' := s') fun t h => ht t (by simp [Ins.reads, h])
    have h2 := j5 (x := y) (s := s) (s' := s') fun t h => ht t (by simp [Ins.reads, h])
    simp only [J3, Ins.adr] at hl
    simp only [c9, h1, h2]
    split
    ·rename_i k kv hx hy; rw [hx] at hl; cases l <;> exact hl.elim
    ·split <;> simp only [SRes.map, f0]
    ·rfl
   | slc z x lo hi => cases lo <;> cases hi <;> first | exact hl.elim | (cases hr; done)
   | _ => first | (cases hv; done) | (cases hr; done)
 ·exact N4 hv ht fun h => absurd h hr
def Fr (d : Option Nat) (w : Part) (s s1 : AS) : Prop := (∀ t, d ≠ some t -> s1.tm t = s.tm t) ∧ Stay w s s1
theorem b2v {w : Part} : Stay w s s := by
 cases w with
 | none => exact ⟨rfl, rfl⟩
 | some w => cases w with
  | none => trivial
  | some k => exact ⟨fun _ _ => rfl, fun _ _ => rfl⟩
theorem a7y {v : Val} : ∀ t, d ≠ some t -> (s.put d v).tm t = s.tm t := fun t ht => by
 cases d with
 | none => rfl
 | some k => exact l6 _ _ fun e => ht (by rw [e])
theorem a7G {w : Part} {v : Val} : Fr d w s (s.put d v) := by
 refine ⟨a7y, ?_⟩
 cases d with
 | none => exact b2v
 | some k =>
  cases w with
  | none => exact ⟨rfl, rfl⟩
  | some w => cases w with
   | none => trivial
   | some k => exact ⟨fun _ _ => rfl, fun _ _ => rfl⟩
theorem b1z {rw : Nat -> Option Row} {v : Val} : Fr d (some (some (RWK, false))) s (({ s with rw := rw } : AS).put d v) := by
 refine ⟨a7y (s := { s with rw := rw }), ?_⟩
 cases d <;> exact ⟨fun _ _ => rfl, fun h => absurd rfl h⟩
theorem J9 {bx : Nat -> Option (List Cel)} {rw : Nat -> Option Row} {v : Val} : Fr d (some none) s (({ s with bx := bx, rw := rw } : AS).put d v) :=
 ⟨a7y (s := { s with bx := bx, rw := rw }), trivial⟩
theorem a8b {k : Nat} {cs : Option (List Cel)} {v : Val} : Fr d (some (some (k, false))) s (({ s with bx := upd s.bx k cs } : AS).put d v) := by
 refine ⟨a7y (s := { s with bx := upd s.bx k cs }), ?_⟩
 cases d <;> exact ⟨fun j hj => l6 _ _ hj, fun _ _ => rfl⟩
def d5K : SRes -> (AS -> Prop) -> Prop
 | .ok s, F => F s
 | .need _ s, F => F s
 | .bad, _ => True
theorem c5Z {r : SRes} {F T : AS -> Prop} (hf : d5K r F) (h : q6 r T) : q6 r (fun s => T s ∧ F s) := by
 cases r with
 | bad => exact h
 | ok s => exact ⟨h, hf⟩
 | need p s => exact ⟨h.1, h.2, hf⟩
theorem b7M {r : SRes} {f : AS -> AS} {T : AS -> Prop} {F : AS -> Prop} (hr : r = r.map f) (hf : ∀ s, F (f s)) (h : q6 r T) : q6 r (fun s => T s ∧ F s) := by
 cases r with
 | bad => exact h
 | ok s => simp only [SRes.map, SRes.ok.injEq] at hr; exact ⟨h, by rw [hr]; exact hf s⟩
 | need p s => simp only [SRes.map, SRes.need.injEq, true_and] at hr; exact ⟨h.1, h.2, by rw [hr]; exact hf s⟩
theorem a8j {i : GI} {l : Lim} {T : AS -> Prop} (hl : J3 s i.ins l) (h : s7 P s i T) : s7 P s i (fun s1 => T s1 ∧ Fr i.dst (wrP i.dst i.ins l) s s1) := by
 obtain ⟨d, gd, ins⟩ := i
 simp only at hl
 by_cases hv : ins.vl = true
 ·have gen : q6 (c9 d ins s) T -> q6 (c9 d ins s) (fun s1 => T s1 ∧ Fr d (wrP d ins l) s s1) := fun h => by
   refine b7M (a1m hv) (fun r => ?_) h
   obtain ⟨v, hv⟩ := (show ∃ v, D2 d false s r = s.put d v from by
    cases d with
    | none => exact ⟨.any, by simp [D2, AS.put]⟩
    | some k =>
     refine ⟨r.tm k, ?_⟩
     simp only [D2, AS.put, Bool.false_eq_true, if_false, AS.mk.injEq, and_true]
     funext t
     simp only [upd, Option.some.injEq]
     by_cases e : t = k
     ·rw [if_pos e, if_pos e.symm, e]
     ·rw [if_neg e, if_neg (fun h => e h.symm)])
   rw [hv]; exact a7G
  cases ins with
  | pick c x y =>
   simp only [s7] at h ⊢
   split at h
   ·split at h <;> exact ⟨h, a7G⟩
   ·exact h
  | call f xs => cases hv
  | callx f xs => cases hv
  | callm f xs m => cases hv
  | trn z x y => cases hv
  | clr E z zero x => cases hv
  | mkr E z b zero n c => cases hv
  | mkm kc => cases hv
  | mup kc x y z => cases hv
  | mdl kc x y => cases hv
  | _ => exact gen h
 ·have gen : ∀ w, d5K (c9 d ins s) (Fr d w s) -> q6 (c9 d ins s) T -> q6 (c9 d ins s) (fun s1 => T s1 ∧ Fr d w s s1) := fun w => c5Z
  cases ins with
  | alloc z =>
   refine gen (some (d.map fun k => (k, false))) ?_ h
   simp only [c9]
   cases d with
   | none => trivial
   | some k =>
    simp only []
    split
    ·split
     ·trivial
     ·exact a8b (s := s) (d := some k) (k := k) (v := .one (.bx k 0))
    ·trivial
  | box x =>
   refine gen (some (d.map fun k => (k, false))) ?_ h
   simp only [c9]
   cases d with
   | none => trivial
   | some k =>
    cases hc : t6 (s.ev x) with
    | none => trivial
    | some cs =>
     simp only []
     split
     ·split
      ·trivial
      ·exact a8b (s := s) (d := some k) (k := k) (v := .one (.bx k 0))
     ·trivial
  | store n a b =>
   refine gen (wrP d (.store n a b) l) ?_ h
   simp only [J3, Ins.adr] at hl
   simp only [c9]
   cases l with
   | none =>
    simp only [wrP]
    split
    ·split
     ·split
      ·exact J9
      ·trivial
     ·trivial
    ·split
     ·split
      ·split
       ·exact J9
       ·trivial
      ·trivial
     ·trivial
    ·trivial
   | some l =>
    cases l with
    | none =>
     simp only [wrP]
     split
     ·split
      ·split
       ·exact J9
       ·trivial
      ·trivial
     ·split
      ·split
       ·split
        ·exact J9
        ·trivial
       ·trivial
      ·trivial
     ·trivial
    | some key =>
     simp only [wrP]
     by_cases hR : key = RWK
     ·rw [if_pos hR]
      split
      ·split
       ·split
        ·exact J9
        ·trivial
       ·trivial
      ·split
       ·split
        ·split
         ·exact J9
         ·trivial
        ·trivial
       ·trivial
      ·trivial
     rw [if_neg hR]
     split
     ·rename_i hx _
      rw [hx] at hl
      have hk : _ = key := hl
      subst hk
      split
      ·split
       ·exact a8b
       ·trivial
      ·trivial
     ·rename_i hx _
      rw [hx] at hl
      exact absurd hl hR
     ·trivial
  | append E z b x y =>
   refine gen (some (some (RWK, false))) ?_ h
   simp only [c9]
   split
   ·split
    ·split
     ·exact b1z
     ·trivial
    ·trivial
   ·trivial
  | call f xs =>
   simp only [s7] at h ⊢
   unfold a4K at h ⊢
   split at h
   ·obtain ⟨R, h1, h2, h3⟩ := h
    exact ⟨R, h1, h2, fun cs r hr => ⟨(h3 cs r hr).1, (h3 cs r hr).2, a7G⟩⟩
   ·exact h
  | callx f xs =>
   simp only [s7] at h ⊢
   unfold W7 at h ⊢
   split at h
   ·rename_i k rest hargs
    have hfr : ∀ (cs : List Cel) (r : Val), Fr d (wrP d (.callx f xs) l) s (({ s with bx := upd s.bx k (some cs) } : AS).put d r) := fun cs r => by
     cases l with
     | none => exact J9
     | some l => cases l with
      | none => exact J9
      | some key =>
       cases xs with
       | nil => cases hargs
       | cons x xs =>
        simp only [J3, Ins.adr] at hl
        simp only [List.map_cons, List.cons.injEq] at hargs
        rw [hargs.1] at hl
        have hk : k = key := hl
        subst hk
        exact a8b
    unfold a7s at h ⊢
    split at h
    ·obtain ⟨hb, h0, h0', R, h1, h2, h3⟩ := h
     exact ⟨hb, h0, h0', R, h1, h2, fun cs r hr => ⟨(h3 cs r hr).1, (h3 cs r hr).2.1, (h3 cs r hr).2.2, hfr cs r⟩⟩
    ·exact h
   ·exact h
  | trn z x y =>
   refine gen (some none) ?_ h
   simp only [c9]
   split
   ·split
    ·split
     ·exact J9
     ·trivial
    ·trivial
   ·trivial
  | clr E z zero x =>
   refine gen (some none) ?_ h
   simp only [c9]
   split
   ·split
    ·split
     ·exact J9
     ·trivial
    ·trivial
   ·trivial
  | mkm kc =>
   refine gen (some none) ?_ h
   simp only [c9]
   cases d with
   | none => trivial
   | some key =>
    simp only []
    split
    ·split
     ·exact J9 (s := s) (d := some key) (bx := s.bx) (v := .one (.mp key))
     ·trivial
    ·trivial
  | mdl kc x y =>
   refine gen (some none) ?_ h
   simp only [c9]
   split
   ·split
    ·split
     ·exact J9
     ·trivial
    ·trivial
   ·trivial
  | mup kc x y z =>
   refine gen (some none) ?_ h
   simp only [c9]
   split
   ·split
    ·split
     ·exact J9
     ·trivial
    ·trivial
   ·trivial
  | mkr E z b zero n c =>
   refine gen (some (some (RWK, false))) ?_ h
   simp only [c9]
   split
   ·rename_i key _ _ _ _ _ _
    split
    ·split
     ·exact b1z (s := s) (d := some key) (rw := upd s.rw key _) (v := .one (.ow key 0))
     ·trivial
    ·trivial
   ·trivial
  | callm f xs m =>
   simp only [s7] at h ⊢
   unfold a2t at h ⊢
   split at h
   ·obtain ⟨h0, R, h1, h2, h3⟩ := h
    refine ⟨h0, R, h1, h2, fun H r hr => ⟨(h3 H r hr).1, (h3 H r hr).2, ?_⟩⟩
    have hall : Fr d (some none) s (({ s with bx := a5N s m H.bs s.bx, rw := a5Z s m H.rs s.rw } : AS).put d (s.backV m r)) := J9
    simp only [wrP]
    split
    ·rename_i k ho
     refine ⟨hall.1, ?_⟩
     have hk : ∀ j, j ≠ k -> a5N s m H.bs s.bx j = s.bx j := fun j hj => by
      rw [a6k, if_neg]
      intro hm
      have : j ∈ m.obs := by
       rcases (h3 H r hr).1 with ⟨e, _⟩ | e
       ·rw [<- e]; exact hm
       ·simp only [hkB, Bool.and_eq_true, List.all_eq_true] at e
        simpa using e.1.1.1 j hm
      rw [ho] at this
      simp at this
      exact hj this
     cases d with
     | none => exact ⟨hk, fun _ h => by cases h⟩
     | some _ => exact ⟨hk, fun _ h => by cases h⟩
    ·exact hall
   ·exact h
  | _ => exact absurd rfl hv
theorem a2I {i : GI} {T : AS -> Prop} (h : s7 P s i T) : ∃ s1, T s1 := by
 unfold s7 at h
 split at h
 ·all_goals grind
 ·unfold a4K at h
  all_goals grind
 ·unfold W7 at h
  split at h
  ·unfold a7s at h
   all_goals grind
  ·exact h.elim
 ·unfold a2t at h
  all_goals grind
 ·generalize c9 i.dst _ s = r at h
  cases r with
  | ok s => exact ⟨s, h⟩
  | need p s => exact ⟨s, h.2⟩
  | bad => exact h.elim
theorem a1z {r : AS} : ∃ v, D2 d false s r = s.put d v := by
 cases d with
 | none => exact ⟨.any, by simp [D2, AS.put]⟩
 | some k =>
  refine ⟨r.tm k, ?_⟩
  simp only [D2, AS.put, Bool.false_eq_true, if_false, AS.mk.injEq, and_true]
  funext t
  simp only [upd, Option.some.injEq]
  all_goals grind
theorem a5f {i : GI} (hv : i.ins.vl = true) {T : AS -> Prop} (h : s7 P s i T) : ∃ v, T (s.put i.dst v) ∧ ∀ T', s7 P s i T' ↔ T' (s.put i.dst v) := by
 obtain ⟨d, gd, ins⟩ := i
 have gen : q6 (c9 d ins s) T -> ∃ v, T (s.put d v) ∧ ∀ T', q6 (c9 d ins s) T' ↔ T' (s.put d v) := fun h => by
  have h1 : c9 d ins s = _ := a1m (s := s) (d := d) hv
  revert h h1
  generalize c9 d ins s = r
  intro h h1
  cases r with
  | bad => exact h.elim
  | ok r =>
   simp only [SRes.map, SRes.ok.injEq] at h1
   obtain ⟨v, hv⟩ := a1z (s := s) (d := d) (r := r)
   rw [hv] at h1; subst h1
   exact ⟨v, h, fun T' => Iff.rfl⟩
  | need p r =>
   simp only [SRes.map, SRes.need.injEq, true_and] at h1
   obtain ⟨v, hv⟩ := a1z (s := s) (d := d) (r := r)
   rw [hv] at h1; subst h1
   exact ⟨v, h.2, fun T' => ⟨fun h' => h'.2, fun h' => ⟨h.1, h'⟩⟩⟩
 cases ins with
 | pick c x y =>
  simp only [s7] at h ⊢
  all_goals grind
 | call f xs => cases hv
 | callx f xs => cases hv
 | callm f xs m => cases hv
 | _ => exact gen h
theorem a8k {i : GI} {l : Lim} {v : Val} (hv : i.ins.vl = true) (hl : J3 s i.ins l) (ht : ∀ t ∈ i.ins.reads, s'.tm t = s.tm t) (hb : Alike (rdP i.dst i.ins l) s s') (h : s7 P s i (fun r => r = s.put i.dst v)) : s7 P s' i (fun r => r = s'.put i.dst v) := by
 obtain ⟨d, gd, ins⟩ := i
 simp only at hv ht hb h hl ⊢
 have gen : q6 (c9 d ins s) (fun r => r = s.put d v) -> q6 (c9 d ins s') (fun r => r = s'.put d v) := fun h => by
  rw [a5u hv hl ht hb, c0N]
  have : ∀ r, r = s.put d v -> D2 d false s' r = s'.put d v := fun r hr => by rw [hr]; exact f0 rfl
  revert h
  generalize c9 d ins s = r
  intro h
  cases r with
  | bad => exact h
  | ok r => exact this r h
  | need p r => exact ⟨h.1, this r h.2⟩
 have hput : ∀ u, s.put d u = s.put d v -> s'.put d u = s'.put d v := fun u hu => by
  cases d with
  | none => rfl
  | some k =>
   have h1 := congrArg (fun s => s.tm k) hu
   simp only [AS.put, j6] at h1
   rw [h1]
 cases ins with
 | pick c x y =>
  have h1 := j5 (x := c) (s := s) (s' := s') fun t h => ht t (by simp [Ins.reads, h])
  have h2 := j5 (x := x) (s := s) (s' := s') fun t h => ht t (by simp [Ins.reads, h])
  have h3 := j5 (x := y) (s := s) (s' := s') fun t h => ht t (by simp [Ins.reads, h])
  simp only [s7, h1, h2, h3] at h ⊢
  all_goals grind
 | call f xs => cases hv
 | callx f xs => cases hv
 | callm f xs m => cases hv
 | _ => exact gen h
structure DI where
 g : GI
 l : Lim
def t8 (P : Program) (s : AS) (i : DI) (T : AS -> Prop) : Prop :=
 (i.g.gd = none ∧ J3 s i.g.ins i.l ∧ s7 P s i.g T) ∨
 ∃ g want b, i.g.gd = some (g, want) ∧ c7n (s.tm g) = some b ∧ ((b = some want ∧ J3 s i.g.ins i.l ∧ s7 P s i.g T) ∨ (b ≠ some want ∧ T (s.put i.g.dst (.tu []))))
theorem a7o {i : DI} {T : AS -> Prop} (h : t8 P s i T) : Q8 P s i.g T := by
 rw [Q4]
 rcases h with ⟨h1, _, h2⟩ | ⟨g, want, b, h1, h2, ⟨h3, _, h4⟩ | ⟨h3, h4⟩⟩
 ·exact .inl ⟨h1, h2⟩
 ·grind
 ·grind
theorem x7 {i : DI} {T T' : AS -> Prop} (hT : ∀ s, T s -> T' s) (h : t8 P s i T) : t8 P s i T' := by
 rcases h with ⟨h1, h0, h2⟩ | ⟨g, want, b, h1, h2, ⟨h3, h0, h4⟩ | ⟨h3, h4⟩⟩
 ·exact .inl ⟨h1, h0, S6 hT h2⟩
 ·exact .inr ⟨g, want, b, h1, h2, .inl ⟨h3, h0, S6 hT h4⟩⟩
 ·exact .inr ⟨g, want, b, h1, h2, .inr ⟨h3, hT _ h4⟩⟩
theorem a4Z {i : DI} {k : Nat} {v : Val} (hk : k ∉ i.g.reads) (hd : i.g.dst ≠ some k) {T : AS -> Prop} : t8 P (s.put (some k) v) i T ↔ t8 P s i (fun s1 => T (s1.put (some k) v)) := by
 have h1 : k ∉ i.g.ins.reads := fun h => hk (List.mem_append_left _ h)
 have h0 : J3 (s.put (some k) v) i.g.ins i.l ↔ J3 s i.g.ins i.l := V9 fun t ht => l6 s.tm v (k := k) (j := t) fun e => h1 (by subst e; exact ht)
 unfold t8
 rw [b1f h1 hd, h0]
 refine or_congr Iff.rfl ?_
 constructor
 ·rintro ⟨g, want, b, hg, hb, h⟩
  have hne : g ≠ k := fun e => hk (by simp [GI.reads, hg, e])
  refine ⟨g, want, b, hg, ?_, ?_⟩
  ·rw [<- hb]; exact congrArg c7n (l6 _ _ hne).symm
  ·rwa [C2 hd] at h
 ·rintro ⟨g, want, b, hg, hb, h⟩
  have hne : g ≠ k := fun e => hk (by simp [GI.reads, hg, e])
  refine ⟨g, want, b, hg, ?_, ?_⟩
  ·rw [<- hb]; exact congrArg c7n (l6 _ _ hne)
  ·rwa [C2 hd]
def DI.wr (i : DI) : Part := wrP i.g.dst i.g.ins i.l
def DI.rd (i : DI) : Part := rdP i.g.dst i.g.ins i.l
theorem a8l {i : DI} {T : AS -> Prop} (h : t8 P s i T) : t8 P s i (fun s1 => T s1 ∧ Fr i.g.dst i.wr s s1) := by
 rcases h with ⟨h1, h0, h2⟩ | ⟨g, want, b, h1, h2, ⟨h3, h0, h4⟩ | ⟨h3, h4⟩⟩
 ·exact .inl ⟨h1, h0, a8j h0 h2⟩
 ·exact .inr ⟨g, want, b, h1, h2, .inl ⟨h3, h0, a8j h0 h4⟩⟩
 ·exact .inr ⟨g, want, b, h1, h2, .inr ⟨h3, h4, a7G⟩⟩
theorem a9y {i : DI} {T : AS -> Prop} (h : t8 P s i T) : ∃ s1, T s1 := by
 rcases h with ⟨_, _, h⟩ | ⟨_, _, _, _, _, ⟨_, _, h⟩ | ⟨_, h⟩⟩
 ·exact a2I h
 ·exact a2I h
 ·exact ⟨_, h⟩
def gv (P : Program) (s : AS) (i : DI) (v : Val) : Prop := t8 P s i (fun r => r = s.put i.g.dst v)
theorem a8M {i : DI} {T : AS -> Prop} {g : Nat} {want : Bool} {b : Option Bool} (h1 : i.g.gd = some (g, want)) (h2 : c7n (s.tm g) = some b) : t8 P s i T ↔ (b = some want ∧ J3 s i.g.ins i.l ∧ s7 P s i.g T) ∨ (b ≠ some want ∧ T (s.put i.g.dst (.tu []))) := by
 unfold t8
 all_goals grind
theorem Y7 {i : DI} (hv : i.g.ins.vl = true) {T : AS -> Prop} (h : t8 P s i T) : ∃ v, T (s.put i.g.dst v) ∧ ∀ T', t8 P s i T' ↔ T' (s.put i.g.dst v) := by
 rcases h with ⟨h1, h0, h2⟩ | ⟨g, want, b, h1, h2, ⟨h3, h0, h4⟩ | ⟨h3, h4⟩⟩
 ·obtain ⟨v, hv1, hv2⟩ := a5f hv h2
  refine ⟨v, hv1, fun T' => ?_⟩
  unfold t8
  rw [h1, hv2]
  simp [h0]
 ·obtain ⟨v, hv1, hv2⟩ := a5f hv h4
  refine ⟨v, hv1, fun T' => ?_⟩
  rw [a8M h1 h2, hv2]
  simp [h3, h0]
 ·refine ⟨.tu [], h4, fun T' => ?_⟩
  rw [a8M h1 h2]
  simp [h3]
theorem a8w {i : DI} {v : Val} (hv : i.g.ins.vl = true) (ht : ∀ t ∈ i.g.reads, s'.tm t = s.tm t) (hb : Alike i.rd s s') (h : gv P s i v) : gv P s' i v := by
 unfold gv at *
 have h0 : ∀ t ∈ i.g.ins.reads, s'.tm t = s.tm t := fun t h => ht t (List.mem_append_left _ h)
 rcases h with ⟨h1, hl, h2⟩ | ⟨g, want, b, h1, h2, h3⟩
 ·exact .inl ⟨h1, (V9 h0).2 hl, a8k hv hl h0 hb h2⟩
 ·refine .inr ⟨g, want, b, h1, by rw [ht g (by simp [GI.reads, h1])]; exact h2, ?_⟩
  rcases h3 with ⟨h3, hl, h4⟩ | ⟨h3, h4⟩
  ·exact .inl ⟨h3, (V9 h0).2 hl, a8k hv hl h0 hb h4⟩
  ·refine .inr ⟨h3, ?_⟩
   cases hd : i.g.dst with
   | none => rfl
   | some k =>
    rw [hd] at h4
    have h5 := congrArg (fun s => s.tm k) h4
    simp only [AS.put, j6] at h5
    rw [<- h5]
def b3F (x y : DI) : Bool :=
 match x, y with
 | ⟨⟨some k, none, .alloc _⟩, none⟩, ⟨⟨some j, none, .alloc _⟩, none⟩ => decide (k ≠ j)
 | _, _ => false
theorem F5 {k : Nat} {z : List Value} {T : AS -> Prop} : t8 P s ⟨⟨some k, none, .alloc z⟩, none⟩ T ↔ s.bx k = none ∧ k ≠ 0 ∧ T { s with tm := upd s.tm k (.one (.bx k 0)), bx := upd s.bx k (some (z.map .g)) } := by
 unfold t8
 simp only [s7, c9, J3, true_and, reduceCtorEq, false_and, exists_const, exists_false, or_false]
 cases s.bx k with
 | none =>
  simp only [true_and]
  by_cases e : k = 0
  ·simp [e, q6]
  ·simp [e, q6]
 | some cs => simp [q6]
theorem a6O {x y : DI} (hi : b3F x y = true) {T : AS -> Prop} (h : t8 P s x (t8 P · y T)) : t8 P s y (t8 P · x T) := by
 unfold b3F at hi
 split at hi
 ·rename_i k zx j zy
  have hne : k ≠ j := by simpa using hi
  rw [F5] at h ⊢
  obtain ⟨h1, h2, h3⟩ := h
  rw [F5] at h3
  obtain ⟨h4, h5, h6⟩ := h3
  simp only [l6 _ _ (Ne.symm hne)] at h4
  refine ⟨h4, h5, ?_⟩
  rw [F5]
  refine ⟨by simp only [l6 _ _ hne]; exact h1, h2, ?_⟩
  rw [K4 hne, K4 hne]
  exact h6
 ·cases hi
def d2L : CAnn := ⟨[], [], [], [], []⟩
def c7o (x y : DI) : Bool :=
 match x, y with
 | ⟨⟨some k, none, .callm f as ⟨[], [], [], [], []⟩⟩, none⟩, ⟨⟨some j, none, .alloc _⟩, none⟩ => decide (k ≠ j) && (decide (j ∉ f.slot) && as.all fun a => decide (j ∉ a.slot))
 | _, _ => false
theorem c9I {H : Hp} (h : d3H d2L H) : H.bs = [] ∧ H.rs = [] := by
 rcases h with ⟨h1, h2⟩ | h
 ·exact ⟨List.map_eq_nil_iff.1 h1, List.map_eq_nil_iff.1 h2⟩
 ·unfold hkB d2L at h
  simp only [Bool.and_eq_true, List.all_eq_true] at h
  obtain ⟨⟨⟨h1, _⟩, h2⟩, _⟩ := h
  have e : ∀ {α : Type} (l : List (Nat × α)), (∀ x ∈ l.map (·.1), ([] : List Nat).contains x = true) -> l = [] := fun l h => by
   cases l with
   | nil => rfl
   | cons p l => have := h p.1 (by simp); simp at this
  exact ⟨e _ h1, e _ h2⟩
theorem a0H {k : Nat} {f : Opd} {as : List Opd} {T : AS -> Prop} : t8 P s ⟨⟨some k, none, .callm f as ⟨[], [], [], [], []⟩⟩, none⟩ T ↔ ∃ g caps R, s.ev f = .one (.fn g caps) ∧ F9 P g [] ⟨[], []⟩ ((as.map s.ev ++ caps.map Val.one).map (s.passV d2L)) R ∧ (∃ H r, R H r) ∧ ∀ H r, R H r -> (H.bs = [] ∧ H.rs = []) ∧ T (s.put (some k) (s.backV d2L r)) := by
 unfold t8
 simp only [s7, J3, true_and, reduceCtorEq, false_and, exists_const, exists_false, or_false]
 constructor
 ·intro h
  unfold a2t at h
  split at h
  ·rename_i g caps hf
   obtain ⟨_, R, h1, h2, h3⟩ := h
   refine ⟨g, caps, R, hf, h1, h2, fun H r hr => ?_⟩
   obtain ⟨h4, h5⟩ := h3 H r hr
   have h6 := c9I h4
   refine ⟨h6, ?_⟩
   obtain ⟨bs, rs⟩ := H
   obtain ⟨rfl, rfl⟩ := h6
   exact h5
  ·exact h.elim
 ·rintro ⟨g, caps, R, hf, h1, h2, h3⟩
  unfold a2t
  rw [hf]
  refine ⟨rfl, R, h1, h2, fun H r hr => ?_⟩
  obtain ⟨h6, h5⟩ := h3 H r hr
  obtain ⟨bs, rs⟩ := H
  obtain ⟨rfl, rfl⟩ := h6
  exact ⟨.inl ⟨rfl, rfl⟩, h5⟩
theorem b4f {f : Opd} {as : List Opd} {j : Nat} {v : Val} {b : Nat -> Option (List Cel)} (h1 : j ∉ f.slot) (h2 : ∀ a ∈ as, j ∉ a.slot) : ({ s with tm := upd s.tm j v, bx := b } : AS).ev f = s.ev f ∧ as.map ({ s with tm := upd s.tm j v, bx := b } : AS).ev = as.map s.ev :=
 ⟨j5 fun t ht => l6 s.tm v fun e => h1 (by subst e; exact ht), List.map_congr_left fun a ha => j5 fun t ht => l6 s.tm v fun e => h2 a ha (by subst e; exact ht)⟩
theorem b4E {x y : DI} (hi : c7o x y = true) {T : AS -> Prop} (h : t8 P s x (t8 P · y T)) : t8 P s y (t8 P · x T) := by
 unfold c7o at hi
 split at hi
 ·rename_i k f as j z
  simp only [Bool.and_eq_true, decide_eq_true_eq, List.all_eq_true] at hi
  obtain ⟨hne, h1, h2⟩ := hi
  rw [a0H] at h
  obtain ⟨g, caps, R, hf, hR, ⟨H0, r0, hr0⟩, h3⟩ := h
  obtain ⟨_, h4⟩ := h3 H0 r0 hr0
  rw [F5] at h4
  rw [F5]
  refine ⟨h4.1, h4.2.1, ?_⟩
  rw [a0H]
  obtain ⟨e1, e2⟩ := b4f (s := s) (v := .one (.bx j 0)) (b := upd s.bx j (some (z.map .g))) h1 h2
  refine ⟨g, caps, R, by rw [e1]; exact hf, by rw [e2]; exact hR, ⟨H0, r0, hr0⟩, fun H r hr => ?_⟩
  obtain ⟨h5, h6⟩ := h3 H r hr
  rw [F5] at h6
  refine ⟨h5, ?_⟩
  have h7 := h6.2.2
  simp only [AS.put] at h7 ⊢
  rw [K4 hne]
  exact h7
 ·cases hi
theorem b0y {x y : DI} (hi : c7o y x = true) {T : AS -> Prop} (h : t8 P s x (t8 P · y T)) : t8 P s y (t8 P · x T) := by
 unfold c7o at hi
 split at hi
 ·rename_i k f as j z
  simp only [Bool.and_eq_true, decide_eq_true_eq, List.all_eq_true] at hi
  obtain ⟨hne, h1, h2⟩ := hi
  rw [F5] at h
  obtain ⟨h4, h5, h6⟩ := h
  rw [a0H] at h6
  obtain ⟨g, caps, R, hf, hR, hex, h3⟩ := h6
  obtain ⟨e1, e2⟩ := b4f (s := s) (v := .one (.bx j 0)) (b := upd s.bx j (some (z.map .g))) h1 h2
  rw [e1] at hf
  rw [e2] at hR
  rw [a0H]
  refine ⟨g, caps, R, hf, hR, hex, fun H r hr => ?_⟩
  obtain ⟨h7, h8⟩ := h3 H r hr
  refine ⟨h7, ?_⟩
  rw [F5]
  refine ⟨h4, h5, ?_⟩
  simp only [AS.put] at h8 ⊢
  rw [K4 hne] at h8
  exact h8
 ·cases hi
def c3p (x y : DI) : Bool :=
 b3F x y || (c7o x y || c7o y x) || ((match x.g.dst with | some k => decide (k ∉ y.g.reads) | none => true) && (match y.g.dst with | some k => decide (k ∉ x.g.reads) | none => true) &&
 (match x.g.dst, y.g.dst with | some k, some j => decide (k ≠ j) | _, _ => true) &&
 ((y.g.ins.vl && x.wr.apart y.rd) || (x.g.ins.vl && y.wr.apart x.rd)))
theorem d6u {x y : DI} (hi : c3p x y = true) {T : AS -> Prop} (h : t8 P s x (t8 P · y T)) : t8 P s y (t8 P · x T) := by
 unfold c3p at hi
 simp only [Bool.and_eq_true, Bool.or_eq_true] at hi
 rcases hi with (hi | hi | hi) | hi
 ·exact a6O hi h
 ·exact b4E hi h
 ·exact b0y hi h
 obtain ⟨⟨⟨h1, h2⟩, h3⟩, h4⟩ := hi
 have r1 : ∀ k, x.g.dst = some k -> k ∉ y.g.reads := fun k hk => by rw [hk] at h1; simpa using h1
 have r2 : ∀ k, y.g.dst = some k -> k ∉ x.g.reads := fun k hk => by rw [hk] at h2; simpa using h2
 have r3 : ∀ k, x.g.dst = some k -> y.g.dst ≠ some k := fun k hk hy => by rw [hk, hy] at h3; simp at h3
 rcases h4 with ⟨hy, hr⟩ | ⟨hx, hr⟩
 ·have hfr := a8l h
  have key : ∀ s1, Fr x.g.dst x.wr s s1 -> ∀ v, gv P s1 y v -> gv P s y v := fun s1 hf v hv =>
   a8w hy (fun t ht => (hf.1 t fun e => r1 t e ht).symm) (hf.2.alike hr).symm hv
  obtain ⟨s1, hs1, hf1⟩ := a9y hfr
  obtain ⟨v1, _, hv1⟩ := Y7 hy hs1
  have hg1 := key s1 hf1 v1 ((hv1 _).2 rfl)
  obtain ⟨v, hvs, hdet⟩ := Y7 (T := fun _ => True) hy (x7 (fun _ _ => trivial) hg1)
  rw [hdet]
  have hall : t8 P s x (fun s2 => T (s2.put y.g.dst v)) := x7 (fun s2 ⟨hT, hf⟩ => by
   obtain ⟨v2, hT2, hd2⟩ := Y7 hy hT
   have h5 := key s2 hf v2 ((hd2 _).2 rfl)
   unfold gv at h5
   rw [hdet] at h5
   have h6 : s2.put y.g.dst v = s2.put y.g.dst v2 := by
    cases hd : y.g.dst with
    | none => rfl
    | some k =>
     rw [hd] at h5
     have h7 := congrArg (fun s => s.tm k) h5
     simp only [AS.put, j6] at h7
     rw [h7]
   rw [h6]; exact hT2) hfr
  cases hd : y.g.dst with
  | none => rw [hd] at hall; exact hall
  | some k =>
   rw [hd] at hall
   exact (a4Z (r2 k hd) (fun e => r3 k e hd)).2 hall
 ·obtain ⟨v, hT, hdet⟩ := Y7 hx h
  have h5 : t8 P s y (fun s1 => T (s1.put x.g.dst v)) := by
   cases hd : x.g.dst with
   | none => rw [hd] at hT; exact hT
   | some k =>
    rw [hd] at hT
    exact (a4Z (r1 k hd) (r3 k hd)).1 hT
  refine x7 (fun s1 ⟨hT1, hf⟩ => ?_) (a8l h5)
  have hg : gv P s1 x v := a8w hx (fun t ht => hf.1 t fun e => r2 t e ht) (hf.2.alike hr) ((hdet _).2 rfl)
  exact x7 (fun r hr => by rw [hr]; exact hT1) hg
/-! ### all orders -/
def gAt (P : Program) (gs : List DI) (i : Nat) (T : AS -> Prop) (s : AS) : Prop :=
 match gs[i]? with
 | some g => t8 P s g T
 | none => T s
def a7u (P : Program) (gs : List DI) : List Nat -> (AS -> Prop) -> AS -> Prop
 | [], T => T
 | i :: L, T => gAt P gs i (a7u P gs L T)
def a1x (gs : List DI) (j i : Nat) : Bool :=
 match gs[j]?, gs[i]? with
 | some x, some y => c3p x y
 | _, _ => true
variable {gs : List DI}
def d4R (P : Program) : List DI -> (AS -> Prop) -> AS -> Prop
 | [], T, s => T s
 | i :: l, T, s => t8 P s i (d4R P l T)
def a6e (ls : List (Nat × Option Nat)) : Nat -> List GI -> List DI
 | _, [] => []
 | i, g :: l => ⟨g, (ls.find? (·.1 == i)).map (·.2)⟩ :: a6e ls (i + 1) l
theorem a5n {ls : List (Nat × Option Nat)} : ∀ {i : Nat} {l : List GI}, (a6e ls i l).map DI.g = l
 | _, [] => rfl
 | i, g :: l => by simp only [a6e, List.map_cons, a5n]
theorem a4c {i : Nat} {T T' : AS -> Prop} (hT : ∀ s, T s -> T' s) (h : gAt P gs i T s) : gAt P gs i T' s := by
 unfold gAt at *
 split
 ·rename_i g hg; rw [hg] at h; exact x7 hT h
 ·grind
theorem c7W {j i : Nat} (hi : a1x gs j i = true) {T : AS -> Prop} (h : gAt P gs j (gAt P gs i T) s) : gAt P gs i (gAt P gs j T) s := by
 unfold a1x at hi
 cases hj : gs[j]? with
 | none =>
  have e : ∀ T s, gAt P gs j T s = T s := fun T s => by simp [gAt, hj]
  rw [e] at h
  exact a4c (fun s h => by rw [e]; exact h) h
 | some x =>
  cases hk : gs[i]? with
  | none =>
   have e : ∀ T s, gAt P gs i T s = T s := fun T s => by simp [gAt, hk]
   rw [e]
   exact a4c (fun s h => by rw [e] at h; exact h) h
  | some y =>
   rw [hj, hk] at hi
   have e1 : ∀ T s, gAt P gs j T s = t8 P s x T := fun T s => by simp [gAt, hj]
   have e2 : ∀ T s, gAt P gs i T s = t8 P s y T := fun T s => by simp [gAt, hk]
   rw [e1] at h; rw [e2]
   refine x7 (fun s h => by rw [e1]; exact h) (d6u hi (x7 (fun s h => by rw [e2] at h; exact h) h))
theorem b3K {i : Nat} {B : List Nat} {T : AS -> Prop} : ∀ {A : List Nat} {s : AS}, (∀ j ∈ A, a1x gs j i = true) -> a7u P gs (A ++ i :: B) T s -> gAt P gs i (a7u P gs (A ++ B) T) s
 | [], s, _, h => h
 | j :: A, s, hA, h => by
  have h1 : gAt P gs j (a7u P gs (A ++ i :: B) T) s := h
  exact c7W (hA j (by simp)) (a4c (fun s h => b3K (fun k hk => hA k (by simp [hk])) h) h1)
def d5N (ops : List Oper) : List (List Nat) :=
 (ops.foldl (fun (acc : List (List Nat)) o => (((o.after.toList.filter (Region.binds .any)).map Edge.on).foldl (fun l j => (j :: (acc.reverse.getD j [])) ++ l) [] |>.eraseDups) :: acc) []).reverse
def c2x (ops : List Oper) (an : List (List Nat)) : Bool :=
 (List.range ops.length).all fun i => match ops[i]? with
  | some o => (o.after.toList.all fun e => !Region.binds .any e || decide (e.on < i)) &&
   (an.getD i []).all fun j => o.after.toList.any fun e => Region.binds .any e && (e.on == j || (an.getD e.on []).contains j)
  | none => true
def b3L (gs : List DI) (an : List (List Nat)) : Bool :=
 (List.range gs.length).all fun i => (List.range i).all fun j => (an.getD i []).contains j || a1x gs j i
def inter : List DI -> List GI
 | [] => []
 | ⟨g, none⟩ :: l => g :: inter l
 | ⟨g, some key⟩ :: l => (match g.ins.adr with | some x => ⟨none, g.gd, .chk x key⟩ | none => ⟨none, g.gd, .un .neg (.f 0)⟩) :: g :: inter l
theorem b3v {x : Opd} {key : Option Nat} {gd : Option (Nat × Bool)} {T : AS -> Prop} (h : s7 P s ⟨none, gd, .chk x key⟩ T) : d5A key (s.ev x) ∧ T s := by
 cases key with
 | none =>
  simp only [s7, c9] at h
  split at h
  ·exact h.elim
  ·exact h.elim
  ·exact h.elim
  ·exact h.elim
  ·exact h.elim
  ·exact h.elim
  ·rename_i h8 h0 h9 h1 h2 h3
   refine ⟨?_, h⟩
   generalize s.ev x = v at h8 h0 h9 h1 h2 h3
   cases v with
   | one c => cases c with
    | mp k => exact absurd rfl (h8 k)
    | os k v lo => exact absurd rfl (h0 k v lo)
    | ws k v lo hi => exact absurd rfl (h9 k v lo hi)
    | bx k o => exact absurd rfl (h1 k o)
    | ow k v => exact absurd rfl (h2 k v)
    | op k v i o => exact absurd rfl (h3 k v i o)
    | _ => trivial
   | _ => trivial
 | some k =>
  simp only [s7, c9] at h
  split at h
  ·rename_i hv
   rw [hv]
   split at h
   ·rename_i e; exact ⟨e, h⟩
   ·exact h.elim
  ·rename_i hv
   rw [hv]
   split at h
   ·rename_i e; exact ⟨e, h⟩
   ·exact h.elim
  ·exact h.elim
theorem c0q {g : GI} {key : Option Nat} {T : AS -> Prop} {c : GI} (hc : c = (match g.ins.adr with | some x => ⟨none, g.gd, .chk x key⟩ | none => ⟨none, g.gd, .un .neg (.f 0)⟩)) (h : Q8 P s c (fun s1 => Q8 P s1 g T)) : t8 P s ⟨g, some key⟩ T := by
 have key1 : ∀ T, c.dst = none ∧ c.gd = g.gd ∧ (s7 P s c T -> J3 s g.ins (some key) ∧ T s) := fun T => by
  subst hc
  unfold J3
  split
  ·exact ⟨rfl, rfl, fun h => b3v h⟩
  ·exact ⟨rfl, rfl, fun h => h.elim⟩
 rw [Q4] at h
 rcases h with ⟨h1, h2⟩ | ⟨g', want, b, h1, h2, h3⟩
 ·obtain ⟨e1, e2, e3⟩ := key1 (fun s1 => Q8 P s1 g T)
  obtain ⟨h4, h5⟩ := e3 h2
  rw [e2] at h1
  rw [Q4] at h5
  rcases h5 with ⟨_, h5⟩ | ⟨_, _, _, h6, _⟩
  ·exact .inl ⟨h1, h4, h5⟩
  ·rw [h1] at h6; cases h6
 ·obtain ⟨e1, e2, e3⟩ := key1 (fun s1 => Q8 P s1 g T)
  rw [e2] at h1
  have gd : ∀ T, Q8 P s g T -> (b = some want ∧ s7 P s g T) ∨ (b ≠ some want ∧ T (s.put g.dst (.tu []))) := fun T h => by
   rw [Q4] at h
   all_goals grind
  refine .inr ⟨g', want, b, h1, h2, ?_⟩
  rcases h3 with ⟨h3, h4⟩ | ⟨h3, h4⟩
  ·all_goals grind
  ·rw [e1] at h4
   rcases gd T h4 with ⟨h7, _⟩ | ⟨_, h7⟩
   ·exact absurd h7 h3
   ·exact .inr ⟨h3, h7⟩
theorem a3z {g : GI} {T : AS -> Prop} (h : Q8 P s g T) : t8 P s ⟨g, none⟩ T := by
 rw [Q4] at h
 rcases h with ⟨h1, h2⟩ | ⟨g', want, b, h1, h2, ⟨h3, h4⟩ | ⟨h3, h4⟩⟩
 ·exact .inl ⟨h1, trivial, h2⟩
 ·exact .inr ⟨g', want, b, h1, h2, .inl ⟨h3, trivial, h4⟩⟩
 ·exact .inr ⟨g', want, b, h1, h2, .inr ⟨h3, h4⟩⟩
theorem a6y {T : AS -> Prop} : ∀ (ds : List DI) (s : AS), a6M P (inter ds) T s -> d4R P ds T s
 | [], _, h => h
 | ⟨g, none⟩ :: l, s, h => x7 (fun s h => a6y l s h) (a3z h)
 | ⟨g, some key⟩ :: l, s, h => x7 (fun s h => a6y l s h) (c0q rfl h)
def b3n (ops : List Oper) (gs : List DI) : Bool := c2x ops (d5N ops) && b3L gs (d5N ops)
theorem b0l {ops : Array Oper} {an : List (List Nat)} (hok : c2x ops.toList an = true) {listed : Array Bool} (closed : ∀ j oj, ops[j]? = some oj -> listed.getD j false = true -> ∀ e ∈ oj.after, Region.binds .any e = true -> listed.getD e.on false = true) :
  ∀ (i : Nat) (o : Oper), ops[i]? = some o -> (∀ e ∈ o.after, Region.binds .any e = true -> listed.getD e.on false = true) -> ∀ j ∈ an.getD i [], listed.getD j false = true := by
 intro i
 induction i using Nat.strongRecOn with
 | _ i ih =>
  intro o ho hall j hj
  have hlt : i < ops.size := (Array.getElem?_eq_some_iff.1 ho).1
  have h1 := List.all_eq_true.1 hok i (List.mem_range.2 (by simpa using hlt))
  all_goals grind
variable {w0 w : World} {okA : Nat -> Prop} {ext : Ext} {N : Nat} {a : Act} {E : Env} {Q : Exit -> Act -> World -> Prop} {ops : Array Oper} [hT : b1K P w0 okA ext]
def unl (n : Nat) (listed : Array Bool) : List Nat := (List.range n).filter fun i => !listed.getD i true
theorem mem_unl {n i : Nat} {listed : Array Bool} : i ∈ unl n listed ↔ i < n ∧ listed.getD i true = false := by
 unfold unl; rw [List.mem_filter, List.mem_range]; simp
theorem a5O {n i : Nat} {listed : Array Bool} (hn : listed.size = n) (hi : i ∈ unl n listed) : ∃ A B, unl n listed = A ++ i :: B ∧ unl n (listed.setIfInBounds i true) = A ++ B ∧ ∀ j ∈ A, j < i := by
 obtain ⟨hlt, hu⟩ := mem_unl.1 hi
 have hr : List.range n = List.range i ++ i :: (List.range (n - (i + 1))).map (· + (i + 1)) := by
  have h1 : n = i + (1 + (n - (i + 1))) := by omega
  conv => lhs; rw [h1]
  rw [List.range_add, List.range_add]
  simp [List.map_map, Function.comp_def, List.range_succ, Nat.add_assoc, Nat.add_comm, Nat.add_left_comm]
 refine ⟨(List.range i).filter fun j => !listed.getD j true, ((List.range (n - (i + 1))).map (· + (i + 1))).filter fun j => !listed.getD j true, ?_, ?_, fun j hj => List.mem_range.1 (List.mem_filter.1 hj).1⟩
 ·unfold unl
  grind
 ·unfold unl
  rw [hr, List.filter_append, List.filter_cons]
  have hi2 : (listed.setIfInBounds i true).getD i true = true := by
   rw [Array.getD_eq_getD_getElem?, Array.getElem?_setIfInBounds]; simp; split <;> rfl
  rw [hi2]
  simp only [Bool.not_true, Bool.false_eq_true, if_false]
  congr 1
  ·refine List.filter_congr fun j hj => ?_
   rw [getD_set_ne true (by have := List.mem_range.1 hj; omega)]
  ·refine List.filter_congr fun j hj => ?_
   obtain ⟨k, _, rfl⟩ := List.mem_map.1 hj
   rw [getD_set_ne true (by omega)]
theorem b4o {n i : Nat} {listed : Array Bool} (hn : listed.size = n) (hlt : i < n) (h : i ∉ unl n listed) : listed.getD i false = true := by
 have h1 : listed.getD i true ≠ false := fun e => h (mem_unl.2 ⟨hlt, e⟩)
 grind
theorem b3T {ca : List (Nat × CAnn)} {T : AS -> Prop} (hgs : ops.toList.mapM (l7 P N ca ops) = some (gs.map DI.g)) {an : List (List Nat)} (hok : c2x ops.toList an = true) (hp : b3L gs an = true)
  (hT : ∀ s a w E, St w0 okA ext N s a w E -> T s -> Q .normal a w) : ∀ (fuel : Nat) (listed : Array Bool) (s : AS) (a : Act) (w : World) (E : Env), listed.size = ops.size -> (unl ops.size listed).length = fuel ->
  (∀ j oj, ops[j]? = some oj -> listed.getD j false = true -> ∀ e ∈ oj.after, Region.binds .any e = true -> listed.getD e.on false = true) ->
  St w0 okA ext N s a w E -> a7u P gs (unl ops.size listed) T s -> wpAny P .any ops Q fuel listed a w := by
 intro fuel
 induction fuel with
 | zero =>
  intro listed s a w E hn hl hc hst h
  have hnil : unl ops.size listed = [] := List.eq_nil_of_length_eq_zero hl
  rw [hnil] at h
  refine ⟨?_, hT s a w E hst h⟩
  cases hr : Region.ready .any ops listed with
  | nil => rfl
  | cons i l =>
   have hi : i ∈ Region.ready .any ops listed := by rw [hr]; simp
   obtain ⟨h0, o, ho, _⟩ := mem_ready.1 hi
   have : i ∈ unl ops.size listed := mem_unl.2 ⟨(Array.getElem?_eq_some_iff.1 ho).1, h0⟩
   rw [hnil] at this; cases this
 | succ fuel ih =>
  intro listed s a w E hn hl hc hst h
  refine ⟨fun hr => ?_, fun i hi => ?_⟩
  ·exfalso
   obtain ⟨i, L, hL⟩ : ∃ i L, unl ops.size listed = i :: L := by cases hu : unl ops.size listed with | nil => rw [hu] at hl; cases hl | cons i L => exact ⟨i, L, rfl⟩
   have hi : i ∈ unl ops.size listed := by rw [hL]; simp
   obtain ⟨A, B, hA, _, hlow⟩ := a5O hn hi
   obtain ⟨hlt, hu⟩ := mem_unl.1 hi
   have hAn : A = [] := by
    cases A with
    | nil => rfl
    | cons k A =>
     grind
   have hready : i ∈ Region.ready .any ops listed := by
    refine mem_ready.2 ⟨hu, ops[i], Array.getElem?_eq_getElem hlt, fun e he hb => ?_⟩
    have h1 := List.all_eq_true.1 hok i (List.mem_range.2 (by simpa using hlt))
    have ho' : ops.toList[i]? = some ops[i] := by simp [hlt]
    rw [ho'] at h1
    simp only [Bool.and_eq_true] at h1
    have h2 := List.all_eq_true.1 h1.1 e (by simpa using he)
    simp only [hb, Bool.not_true, Bool.false_or, decide_eq_true_eq] at h2
    refine b4o hn (by omega) fun hm => ?_
    rw [hA, hAn] at hm
    simp only [List.nil_append, List.mem_cons] at hm
    rcases hm with hm | hm
    ·omega
    ·have hs : (unl ops.size listed).Pairwise (· < ·) := List.Pairwise.filter _ List.pairwise_lt_range
     grind
   grind
  ·obtain ⟨h0, o, ho, hall⟩ := mem_ready.1 hi
   have hlt : i < ops.size := (Array.getElem?_eq_some_iff.1 ho).1
   have hm : i ∈ unl ops.size listed := mem_unl.2 ⟨hlt, h0⟩
   obtain ⟨A, B, hA, hA2, hlow⟩ := a5O hn hm
   rw [hA] at h
   have hglen : gs.length = ops.size := by have := F3 hgs; simpa using this
   have hind : ∀ j ∈ A, a1x gs j i = true := fun j hj => by
    have h1 := List.all_eq_true.1 (List.all_eq_true.1 hp i (List.mem_range.2 (by omega))) j (List.mem_range.2 (hlow j hj))
    simp only [Bool.or_eq_true, List.contains_eq_mem, decide_eq_true_eq] at h1
    rcases h1 with h1 | h1
    ·have h2 := b0l hok hc i o ho hall j h1
     have h3 : j ∈ unl ops.size listed := by rw [hA]; simp [hj]
     have h4 := (mem_unl.1 h3)
     grind
    ·exact h1
   have h5 := b3K hind h
   obtain ⟨g, hg⟩ : ∃ g, gs[i]? = some g := ⟨gs[i]'(by omega), List.getElem?_eq_getElem _⟩
   have hcg : l7 P N ca ops o = some g.g := by
    have := Z7 hgs (i := i) (x := o) (by simpa using ho)
    grind
   simp only [gAt, hg] at h5
   have hclosed : ∀ j oj, ops[j]? = some oj -> (listed.setIfInBounds i true).getD j false = true -> ∀ e ∈ oj.after, Region.binds .any e = true -> (listed.setIfInBounds i true).getD e.on false = true := fun j oj hj hl' e he hb => by
    by_cases hij : i = j
    ·subst hij
     have : oj = o := Option.some.inj (hj.symm.trans ho)
     subst this
     exact getD_set_true (hall e he hb)
    ·rw [getD_set_ne false hij] at hl'
     exact getD_set_true (hc j oj hj hl' e he hb)
   have hlen : (unl ops.size (listed.setIfInBounds i true)).length = fuel := by
    grind
   have h6 := V5 (Q := Q) (K := wpAny P .any ops Q fuel (listed.setIfInBounds i true)) hst hcg (H5 (fun s1 hs1 a' w' E' hst' => ih (listed.setIfInBounds i true) s1 a' w' E' (by simpa using hn) hlen hclosed hst' (by rw [hA2]; exact hs1)) (a7o h5))
   unfold wpOp
   all_goals grind
theorem a5a {T : AS -> Prop} : ∀ (l : List DI) (k : Nat) (s : AS), (∀ j, l[j]? = gs[k + j]?) -> d4R P l T s -> a7u P gs ((List.range l.length).map (k + ·)) T s
 | [], k, s, _, h => h
 | g :: l, k, s, hl, h => by
  have hk : gs[k]? = some g := by simpa using (hl 0).symm
  rw [List.length_cons, List.range_succ_eq_map, List.map_cons]
  simp only [a7u, gAt, Nat.add_zero, hk]
  refine x7 (fun s1 h1 => ?_) h
  have := a5a l (k + 1) s1 (fun j => by have := hl (j + 1); simpa [Nat.add_assoc, Nat.add_comm 1 j] using this) h1
  have e : List.map (k + ·) (List.map Nat.succ (List.range l.length)) = (List.range l.length).map (k + 1 + ·) := by
   rw [List.map_map]; refine List.map_congr_left fun j _ => ?_; simp; omega
  rw [e]; exact this
theorem b0p {ca : List (Nat × CAnn)} {id : Nat} (hm : P.follows .mixedOrders = true) (hgs : ops.toList.mapM (l7 P N ca ops) = some (gs.map DI.g)) (hok : b3n ops.toList gs = true) {T : AS -> Prop} (h : St w0 okA ext N s a w E)
  (hT : ∀ s a w E, St w0 okA ext N s a w E -> T s -> Q .normal a w) (ha : a6M P (inter gs) T s) : (Code.region id ops true).wp P Q a w := by
 simp only [b3n, Bool.and_eq_true] at hok
 have hglen : gs.length = ops.size := by have := F3 hgs; simpa using this
 refine wp_region_any hm ?_
 have hst : St w0 okA ext N s a { w with drawn := w.drawn + 1 } E := h.grown ⟨rfl, rfl, rfl, Nat.le_refl _, fun _ _ _ => rfl⟩
 have hunl : unl ops.size (Array.replicate ops.size false) = List.range ops.size := by
  unfold unl
  rw [List.filter_eq_self]
  intro i hi
  have := List.mem_range.1 hi
  simp [this]
 refine b3T hgs hok.1 hok.2 hT ops.size _ s a _ E (by simp) (by rw [hunl]; simp) (fun j oj _ hl => ?_) hst ?_
 ·exfalso
  rcases Nat.lt_or_ge j ops.size with h' | h'
  ·simp [h'] at hl
  ·simp [h'] at hl
 ·rw [hunl]
  have := a5a (P := P) (gs := gs) (T := T) gs 0 s (by simp) (a6y gs s ha)
  rw [hglen] at this
  simpa using this
end
end Go.Ai

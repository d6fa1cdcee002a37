/-
  The abstract layer: one operation of the loaded code, whichever; calls by contract.
-/
import Derived.Test.YtggbcgldnjmobaaDoorAiMap
namespace Go.Ai
open Go
set_option linter.unusedSimpArgs false
set_option linter.unusedVariables false

section
variable {P : Program} {w0 w w' : World} {okA : Nat → Prop} {ext : Ext} {N : Nat} {s : AS} {a : Act} {E : Env} {o : Oper} {K : Act → World → Prop} {Q : Exit → Act → World → Prop}

def callsOut : Ins → Bool
  | .call _ _ => true
  | .callx _ _ => true
  | .callm _ _ _ => true
  | .pick _ _ _ => true
  | _ => false

theorem elem_of {t : TypeId} {p : TypeId × TypeInfo} (h : elemOfSlice P t = some p) : P.underlying t = some (.slice p.1) ∧ P.info? p.1 = some p.2 := by
  unfold elemOfSlice at h
  split at h
  · rename_i e hu
    simp only [Option.map_eq_some_iff] at h
    obtain ⟨i, hi, rfl⟩ := h
    exact ⟨hu, hi⟩
  · cases h
theorem ty_of {t : TypeId} {p : Bool × Nat} (h : tyOf P t = some p) : ∃ d i, P.underlying t = some d ∧ P.info? t = some i ∧ p = (isAggB d, i.size) := by
  unfold tyOf at h
  split at h
  · rename_i d i hu hi; simp only [Option.some.injEq] at h; exact ⟨d, i, hu, hi, h.symm⟩
  · cases h

theorem ins_sound (h : St w0 okA ext N s a w E) {i : Ins} (hc : compileIns P o = some i) (hn : callsOut i = false) (hd : ∀ k, o.dst = some k → k < N)
    (hK : SGood (estep o.dst i s) (Serves w0 okA ext N K)) : o.wp P a w K Q := by
  unfold compileIns at hc
  split at hc
  case h_1 x ho => simp only [Option.map_eq_some_iff] at hc; obtain ⟨y, hy, rfl⟩ := hc; exact s_mv h hy (.inl ho) hd hK
  case h_2 x ho => simp only [Option.map_eq_some_iff] at hc; obtain ⟨y, hy, rfl⟩ := hc; exact s_mv h hy (.inr ho) hd hK
  case h_3 c x y ho => split at hc <;> first | (injection hc with hc; subst hc; cases hn) | cases hc
  case h_4 t ho => simp only [Option.map_eq_some_iff] at hc; obtain ⟨z, hz, rfl⟩ := hc; exact s_alloc h hz ho hd hK
  case h_5 t x ho => simp only [Option.map_eq_some_iff] at hc; obtain ⟨y, hy, rfl⟩ := hc; exact s_box h hy ho hd hK
  case h_6 t parts ho =>
    split at hc
    · rename_i z pl ps hz hpl hps; injection hc with hc; subst hc; exact s_build h hz hps hpl ho hd hK
    · cases hc
  case h_7 t len parts ho =>
    split at hc
    · rename_i e inf ps he hps
      split at hc
      · rename_i hcond; injection hc with hc; subst hc
        obtain ⟨hu, hi⟩ := elem_of he
        exact s_bslice h hu hi hps hcond.1 hcond.2.1 hcond.2.2.1 hcond.2.2.2.1 hcond.2.2.2.2 ho hd hK
      · cases hc
    · cases hc
  case h_8 t x ho =>
    split at hc
    · rename_i ag n y ht hy; injection hc with hc; subst hc
      obtain ⟨d, inf, hu, hi, he⟩ := ty_of ht
      simp only [Prod.mk.injEq] at he; obtain ⟨rfl, rfl⟩ := he
      exact s_load h hy hu hi ho hd hK
    · cases hc
  case h_9 t x v ho =>
    split at hc
    · rename_i ag n y y' ht hy hy'; injection hc with hc; subst hc
      obtain ⟨d, inf, hu, hi, he⟩ := ty_of ht
      simp only [Prod.mk.injEq] at he; obtain ⟨_, rfl⟩ := he
      exact s_store h hy hy' hi ho hd hK
    · cases hc
  case h_10 x ho => simp only [Option.map_eq_some_iff] at hc; obtain ⟨y, hy, rfl⟩ := hc; exact s_nilchk h hy ho hd hK
  case h_11 op t x y t' ho =>
    split at hc
    · rename_i y' y'' hy hy'
      split at hc
      · rename_i neg agg ks he; injection hc with hc; subst hc; exact s_eqs h hy hy' he ho hd hK
      · injection hc with hc; subst hc; exact s_bin h hy hy' ho hd hK
    · cases hc
  case h_12 op t x ho => simp only [Option.map_eq_some_iff] at hc; obtain ⟨y, hy, rfl⟩ := hc; exact s_un h hy ho hd hK
  case h_13 src dst x ho =>
    split at hc
    · rename_i d k y hs hdst hy; injection hc with hc; subst hc; exact s_conv h hy hs hdst ho hd hK
    · cases hc
  case h_14 f first caps ho =>
    split at hc
    · rename_i cs hcs
      split at hc
      · rename_i hf; injection hc with hc; subst hc; exact s_mkfn h hcs hf ho hd hK
      · cases hc
    · cases hc
  case h_15 t x lo hi ho =>
    split at hc
    · rename_i e inf y he hy
      obtain ⟨hu, hi'⟩ := elem_of he
      split at hc
      · injection hc with hc; subst hc; exact s_slc h hy hu hi' none none none none (.inl ⟨rfl, rfl⟩) (.inl ⟨rfl, rfl⟩) ho hd hK
      · rename_i l; simp only [Option.map_eq_some_iff] at hc; obtain ⟨l', hl, rfl⟩ := hc
        exact s_slc h hy hu hi' (some l) none (some l') none (.inr ⟨l, l', rfl, rfl, hl⟩) (.inl ⟨rfl, rfl⟩) ho hd hK
      · rename_i l; simp only [Option.map_eq_some_iff] at hc; obtain ⟨l', hl, rfl⟩ := hc
        exact s_slc h hy hu hi' none (some l) none (some l') (.inl ⟨rfl, rfl⟩) (.inr ⟨l, l', rfl, rfl, hl⟩) ho hd hK
      · rename_i l m
        split at hc
        · rename_i l' m' hl hm; injection hc with hc; subst hc
          exact s_slc h hy hu hi' (some l) (some m) (some l') (some m') (.inr ⟨l, l', rfl, rfl, hl⟩) (.inr ⟨m, m', rfl, rfl, hm⟩) ho hd hK
        · cases hc
    · rename_i y _ hy
      split at hc
      · rename_i hu; exact s_ssub h hy hu lo hi hc ho hd hK
      · cases hc
    · cases hc
  case h_16 t x k ho =>
    split at hc
    · rename_i f y hf hy
      split at hc
      · rename_i inf hi
        split at hc
        · cases hc
        · rename_i hz; injection hc with hc; subst hc; exact s_fadr h hy hf hi hz ho hd hK
      · cases hc
    · cases hc
  case h_17 t x k ho =>
    split at hc
    · rename_i f y hf hy
      split at hc
      · rename_i ag n ht; injection hc with hc; subst hc
        obtain ⟨d, inf, hu, hi, he⟩ := ty_of ht
        simp only [Prod.mk.injEq] at he; obtain ⟨rfl, rfl⟩ := he
        exact s_fld h hy hf hu hi ho hd hK
      · cases hc
    · cases hc
  case h_18 t x i ho =>
    split at hc
    · rename_i e inf y y' he hy hy'; injection hc with hc; subst hc
      obtain ⟨hu, hi⟩ := elem_of he
      exact s_iadr h hy hy' hu hi ho hd hK
    · rename_i y y' _ hy hy'
      unfold aadrOf at hc
      split at hc
      · rename_i n e hu
        simp only [Option.map_eq_some_iff] at hc; obtain ⟨inf, hi, rfl⟩ := hc
        exact s_aadr h hy hy' hu hi ho hd hK
      · cases hc
    · cases hc
  case h_19 t x i ho =>
    split at hc
    · rename_i y y' hu hy hy'; injection hc with hc; subst hc; exact s_idx h hy hy' hu ho hd hK
    · cases hc
  case h_20 x i ho => simp only [Option.map_eq_some_iff] at hc; obtain ⟨y, hy, rfl⟩ := hc; exact s_extr h hy ho hd hK
  case h_21 args ts ho =>
    split at hc
    · rename_i x e hargs hu
      simp only [Option.map_eq_some_iff] at hc; obtain ⟨y, hy, rfl⟩ := hc
      simp only [Option.bind_eq_some_iff] at hu
      obtain ⟨t, ht, hu⟩ := hu
      have : args = #[x] := by apply Array.ext'; simpa using hargs
      subst this
      exact s_len h hy ht hu ho hd hK
    · rename_i x hargs hu
      simp only [Option.map_eq_some_iff] at hc; obtain ⟨y, hy, rfl⟩ := hc
      simp only [Option.bind_eq_some_iff] at hu
      obtain ⟨t, ht, hu⟩ := hu
      have : args = #[x] := by apply Array.ext'; simpa using hargs
      subst this
      exact s_slen h hy ht hu ho hd hK
    · cases hc
  case h_22 args ts ho =>
    split at hc
    · rename_i x y hargs
      split at hc
      · rename_i x' y' hx hy; injection hc with hc; subst hc
        have : args = #[x, y] := by apply Array.ext'; simpa using hargs
        subst this
        exact s_mnx (mx := true) h hx hy ho hd hK
      · cases hc
    · cases hc
  case h_23 args ts ho =>
    split at hc
    · rename_i x y hargs
      split at hc
      · rename_i x' y' hx hy; injection hc with hc; subst hc
        have : args = #[x, y] := by apply Array.ext'; simpa using hargs
        subst this
        exact s_mnx (mx := false) h hx hy ho hd hK
      · cases hc
    · cases hc
  case h_24 args ts ho =>
    split at hc
    · rename_i x y t t' hargs hts
      split at hc
      · rename_i e inf x' y' he hx hy
        split at hc
        · rename_i hcond; injection hc with hc; subst hc
          obtain ⟨rfl, _, hzero⟩ := hcond
          obtain ⟨hu, hi⟩ := elem_of he
          have h1 : args = #[x, y] := by apply Array.ext'; simpa using hargs
          have h2 : ts = #[t, t] := by apply Array.ext'; simpa using hts
          subst h1; subst h2
          exact s_append h hx hy hu hi hzero ho hd hK
        · cases hc
      · cases hc
    · cases hc
  case h_25 f args ts ho =>
    split at hc
    · injection hc with hc; subst hc; split at hn <;> cases hn
    · cases hc
  case h_26 args ts ho =>
    split at hc
    · rename_i x t hargs hts
      split at hc
      · rename_i e inf x' he hx
        split at hc
        · rename_i z hz
          split at hc
          · rename_i hzl; injection hc with hc; subst hc
            obtain ⟨hu, hi⟩ := elem_of he
            have h1 : args = #[x] := by apply Array.ext'; simpa using hargs
            have h2 : ts = #[t] := by apply Array.ext'; simpa using hts
            subst h1; subst h2
            exact s_clr h hx hu hi hz hzl ho hd hK
          · cases hc
        · cases hc
      · cases hc
    · cases hc
  case h_27 t l c ho =>
    split at hc
    · rename_i e inf l' c' he hl hl2
      split at hc
      · rename_i z hz
        split at hc
        · rename_i hzl; injection hc with hc; subst hc
          obtain ⟨hu, hi⟩ := elem_of he
          exact s_mkr h hl hl2 hu hi hz hzl ho hd hK
        · cases hc
      · cases hc
    · cases hc
  case h_28 t ho =>
    simp only [Option.map_eq_some_iff] at hc; obtain ⟨p, hp, rfl⟩ := hc
    obtain ⟨kt, d, hu, hud, hk⟩ := map_of hp
    exact s_mkm h hu (.inl rfl) ho hd hK
  case h_29 t q n ho =>
    simp only [Option.map_eq_some_iff] at hc; obtain ⟨p, hp, rfl⟩ := hc
    obtain ⟨kt, d, hu, hud, hk⟩ := map_of hp
    exact s_mkm h hu (.inr ⟨_, _, rfl⟩) ho hd hK
  case h_30 t m k v ho =>
    split at hc
    · rename_i p m' k' v' hp hm hk' hv; injection hc with hc; subst hc
      obtain ⟨kt, d, hu, hud, hk⟩ := map_of hp
      exact s_mup h hm hk' hv hu hud hk (.inl ho) hd hK
    · cases hc
  case h_31 t m k v ho =>
    split at hc
    · rename_i p m' k' v' hp hm hk' hv; injection hc with hc; subst hc
      obtain ⟨kt, d, hu, hud, hk⟩ := map_of hp
      exact s_mup h hm hk' hv hu hud hk (.inr ho) hd hK
    · cases hc
  case h_32 t m k ok ho =>
    split at hc
    · rename_i p m' k' hp hm hk'
      split at hc
      · rename_i z hz; injection hc with hc; subst hc
        obtain ⟨kt, d, hu, hud, hk⟩ := map_of hp
        exact s_mlk h hm hk' hu hud hk hz ho hd hK
      · cases hc
    · cases hc
  case h_33 => cases hc

/-! ### the step with guards and calls -/
def callP (P : Program) (s : AS) (d : Option Nat) (f : Val) (args : List Val) (T : AS → Prop) : Prop :=
  match f with
  | .one (.fn f caps) => ∃ R, FC P f none ((args ++ caps.map Val.one).map s.view) R ∧ (∃ cs r, R cs r) ∧
      ∀ cs r, R cs r → (freshV r = true ∨ (dataRV r = true ∧ (args ++ caps.map Val.one).all plainV = true)) ∧ T (s.put d r)
  | _ => False
def callX (P : Program) (s : AS) (d : Option Nat) (f : Val) (k : Nat) (rest : List Val) (T : AS → Prop) : Prop :=
  match f, s.bx k with
  | .one (.fn f []), some cs => cs.all plainC = true ∧ rest.all plainV = true ∧ ∃ R, FC P f (some (cs.map s.viewC)) (rest.map s.view) R ∧ (∃ cs r, R cs r) ∧
      ∀ cs' r, R cs' r → dataRV r = true ∧ cs'.all dataRC = true ∧ T ({ s with bx := upd s.bx k (some cs') }.put d r)
  | _, _ => False
def callXS (P : Program) (s : AS) (d : Option Nat) (f : Val) (args : List Val) (T : AS → Prop) : Prop :=
  match args with
  | .one (.bx k 0) :: rest => callX P s d f k rest T
  | _ => False

theorem list_rel {l : List Operand} {ys : List Opd} (h : St w0 okA ext N s a w E) (hy : l.mapM opd = some ys) : ∀ (i : Nat) (x : Val) (u : Value), (ys.map s.ev)[i]? = some x → (l.map a.eval)[i]? = some u → VRel w (okE w0 okA E) w0.heap.size E x u := by
  intro i x u h1 h2
  rw [List.getElem?_map] at h1 h2
  cases hl : l[i]? with
  | none => rw [hl] at h2; cases h2
  | some p =>
    rw [hl] at h2; simp at h2; subst h2
    have h3 := mapM_at hy hl
    cases hy' : ys[i]? with
    | none => rw [hy'] at h1; cases h1
    | some q =>
      rw [hy'] at h1 h3; simp at h1; subst h1
      exact ev_rel h h3.symm

theorem run_call {f : FuncId} {us : List Value} {fo : Operand} {args : Array Operand} {ts : Array TypeId} (ho : o.op = .call { callee := .value fo, args, argTypes := ts }) (hf : a.eval fo = .func (.func f) #[] us.toArray) (hb : hasBody P f) :
    (execOp a.eval o).run P w = .ok (.enter f (args.toList.map a.eval ++ us).toArray) w := by
  obtain ⟨fn, h1, h2, h3⟩ := hb
  have h4 : args.map a.eval ++ us.toArray = (args.toList.map a.eval ++ us).toArray := by apply Array.ext'; simp
  have h5 : ¬ fn.name = "runtime.NumGoroutine" := by simpa using h3
  have h6 : ¬ fn.body = none := by
    cases hb : fn.body with
    | none => rw [hb] at h2; cases h2
    | some c => simp
  simp [execOp, ho, resolve, hf, Deferred.ofValue, invoke, callFunc, h1]
  rw [if_neg h5, if_neg h6, ← h4]

theorem callx_sound (h : St w0 okA ext N s a w E) {fo : Operand} {args : Array Operand} {ts : Array TypeId} {fy : Opd} {ys : List Opd} (ho : o.op = .call { callee := .value fo, args, argTypes := ts }) (hf : opd fo = some fy) (hy : args.toList.mapM opd = some ys)
    (hd : ∀ k, o.dst = some k → k < N) (hK : callXS P s o.dst (s.ev fy) (ys.map s.ev) (Serves w0 okA ext N K)) : o.wp P a w K Q := by
  have hrel := list_rel h hy
  have hlen : ys.length = args.toList.length := mapM_len hy
  have hfr := ev_rel h hf
  have hsz := h.frame.size
  unfold callXS at hK
  split at hK
  · rename_i k rest hargs
    unfold callX at hK
    split at hK
    · rename_i f cs hfv hs
      obtain ⟨hp1, hp2, R, hFC, _, hR⟩ := hK
      obtain ⟨us, hfe, hul, _⟩ := one_c hfr hfv
      have hus : us = [] := List.eq_nil_of_length_eq_zero (by simpa using hul.symm)
      subst hus
      obtain ⟨y0, ys', rfl⟩ : ∃ y0 ys', ys = y0 :: ys' := by cases ys with | nil => simp at hargs | cons y ys => exact ⟨y, ys, rfl⟩
      obtain ⟨p0, l', hl⟩ : ∃ p0 l', args.toList = p0 :: l' := by cases hal : args.toList with | nil => rw [hal] at hlen; simp at hlen | cons p l => exact ⟨p, l, rfl⟩
      simp only [List.map_cons, List.cons.injEq] at hargs
      obtain ⟨hy0, rfl⟩ := hargs
      rw [hl] at hrel hlen
      have h0 := hrel 0 _ _ rfl rfl
      rw [hy0] at h0
      obtain ⟨g, hg, hp⟩ := one_c h0 rfl
      obtain ⟨g', cur, ty, h1, h2, h3⟩ := h.bx k cs hs
      rw [hg] at h1; injection h1 with h1; subst h1
      have hrun := run_call (P := P) (w := w) ho hfe hFC.1
      rw [hl] at hrun
      unfold Oper.wp
      rw [hrun, Oper.upon_enter]
      have hc := hFC.2 w (okE w0 okA E) g (l'.map a.eval) (fun cs' hcs' => by
        simp only [Option.some.injEq] at hcs'; subst hcs'
        exact ⟨fun ho => ho.1 k hg, cur, ty, h2, plain_relCs h3 hp1⟩) (by simp at hlen ⊢; omega) (fun i x u hx hu => by
        rw [List.getElem?_map] at hx
        cases hi : (ys'.map s.ev)[i]? with
        | none => rw [hi] at hx; cases hx
        | some x0 =>
          rw [hi] at hx; simp at hx; subst hx
          exact plain_relV (hrel (i + 1) x0 u (by simpa using hi) (by simpa using hu)) (List.all_eq_true.1 hp2 x0 (List.mem_of_getElem? hi)))
      have harr : ((if (some (cs.map s.viewC)).isSome then [Value.pointer (some ⟨g, 0, none⟩)] else []) ++ l'.map a.eval).toArray = ((p0 :: l').map a.eval ++ []).toArray := by simp [hp]
      rw [harr] at hc
      refine Calls.mono hc ?_
      rintro e w1 ⟨v, cs', r, rfl, hRr, hgr, hv, hbox⟩
      obtain ⟨hd1, hd2, hT⟩ := hR cs' r hRr
      obtain ⟨cur', ty', hw1, hcs'⟩ := hbox rfl
      have hgr' : w.grownBy w1 (some g) := hgr
      have hokn : ∀ b, w.heap.size ≤ b → okE w0 okA E b := fun b hb => ⟨fun j hj => by have := h.glt hj; omega, fun j ver z u hj hu => by have := h.rlt hj hu; omega, .inl (Nat.le_trans hsz hb)⟩
      have hcs2 : CsRel w1 (okE w0 okA E) w0.heap.size E cs' cur'.toList := ⟨hcs'.1, fun i c u h4 h5 => back_relC h (hcs'.2 i c u h4 h5) (fun b hb _ => hokn b hb) (.inr ⟨List.all_eq_true.1 hd2 c (List.mem_of_getElem? h4), fun b hb => hb.1.elim (hokn b) id⟩)⟩
      have hst := h.boxTurn hg hgr' hw1 hcs2
      have hv2 := back_relV (ok' := fun b => w.heap.size ≤ b ∨ okE w0 okA E b) h hv (fun b hb _ => hokn b hb) (.inr ⟨hd1, fun b hb => hb.elim (hokn b) id⟩)
      exact hT _ _ E (hst.put hv2 hd)
    · exact hK.elim
  · exact hK.elim

theorem callp_sound (h : St w0 okA ext N s a w E) {fo : Operand} {args : Array Operand} {ts : Array TypeId} {fy : Opd} {ys : List Opd} (ho : o.op = .call { callee := .value fo, args, argTypes := ts }) (hf : opd fo = some fy) (hy : args.toList.mapM opd = some ys)
    (hd : ∀ k, o.dst = some k → k < N) (hK : callP P s o.dst (s.ev fy) (ys.map s.ev) (Serves w0 okA ext N K)) : o.wp P a w K Q := by
  have hrel := list_rel h hy
  have hlen : ys.length = args.toList.length := mapM_len hy
  have hfr := ev_rel h hf
  have hsz := h.frame.size
  unfold callP at hK
  split at hK
  · rename_i f caps hfv
    obtain ⟨R, hFC, _, hR⟩ := hK
    obtain ⟨us, hfe, hul, hcaps⟩ := one_c hfr hfv
    have hrun := run_call (P := P) (w := w) ho hfe hFC.1
    unfold Oper.wp
    rw [hrun, Oper.upon_enter]
    have hall : ∀ (i : Nat) (x : Val) (u : Value), ((ys.map s.ev) ++ caps.map Val.one)[i]? = some x → (args.toList.map a.eval ++ us)[i]? = some u → VRel w (okE w0 okA E) w0.heap.size E x u := fun i x u hx hu => by
      rw [List.getElem?_append] at hx hu
      have h7 : (ys.map s.ev).length = (args.toList.map a.eval).length := by simpa using hlen
      rw [h7] at hx
      split at hx
      · rename_i hlt; rw [if_pos hlt] at hu; exact hrel i x u hx hu
      · rename_i hlt; rw [if_neg hlt] at hu
        rw [List.getElem?_map] at hx
        cases hi : caps[i - (args.toList.map a.eval).length]? with
        | none => rw [hi] at hx; cases hx
        | some c0 =>
          rw [hi] at hx; simp at hx; subst hx
          have h8 := hcaps _ c0 u hi hu
          exact .one (by cases c0 <;> first | exact h8 | exact h8.elim)
    have hlen2 : ((ys.map s.ev ++ caps.map Val.one).map s.view).length = (args.toList.map a.eval ++ us).length := by simp at hlen ⊢; omega
    by_cases hpl : (ys.map s.ev ++ caps.map Val.one).all plainV = true
    · have hc := hFC.2 w (okE w0 okA E) 0 (args.toList.map a.eval ++ us) (fun cs h => by cases h) hlen2 (fun i x u hx hu => by
        rw [List.getElem?_map] at hx
        cases hi : (ys.map s.ev ++ caps.map Val.one)[i]? with
        | none => rw [hi] at hx; cases hx
        | some x0 =>
          rw [hi] at hx; simp at hx; subst hx
          exact plain_relV (hall i x0 u hi hu) (List.all_eq_true.1 hpl x0 (List.mem_of_getElem? hi)))
      refine Calls.mono hc ?_
      rintro e w1 ⟨v, cs', r, rfl, hRr, hgr, hv, _⟩
      obtain ⟨hcond, hT⟩ := hR cs' r hRr
      have hokn : ∀ b, w.heap.size ≤ b → okE w0 okA E b := fun b hb => ⟨fun j hj => by have := h.glt hj; omega, fun j ver z u hj hu => by have := h.rlt hj hu; omega, .inl (Nat.le_trans hsz hb)⟩
      exact hT _ _ E (h.called hgr hv (hcond.imp id (fun h => ⟨h.1, fun b hb => hb.elim (hokn b) id⟩)) hd)
    · have hc := hFC.2 w (fun _ => True) 0 (args.toList.map a.eval ++ us) (fun cs h => by cases h) hlen2 (fun i x u hx hu => by
        rw [List.getElem?_map] at hx
        cases hi : (ys.map s.ev ++ caps.map Val.one)[i]? with
        | none => rw [hi] at hx; cases hx
        | some x0 =>
          rw [hi] at hx; simp at hx; subst hx
          exact view_relV h (hall i x0 u hi hu) (fun _ _ => trivial) (fun _ _ _ _ _ _ _ _ => trivial) (fun _ _ _ _ => trivial))
      refine Calls.mono hc ?_
      rintro e w1 ⟨v, cs', r, rfl, hRr, hgr, hv, _⟩
      obtain ⟨hcond, hT⟩ := hR cs' r hRr
      exact hT _ _ E (h.called hgr hv (hcond.imp id (fun h => absurd h.2 hpl)) hd)
  · exact hK.elim
end
end Go.Ai

/-
 The abstract layer: one operation of the loaded code, whichever; calls by contract.
 The abstract layer: calls that are handed boxes and rows.
 The abstract layer: one operation with its guard, a region's list of operations.
-/
import Derived.Test.YtdhkejcldipbmaaGreatDoorAiB
import Derived.Calls
namespace Go.Ai
open Go
set_option linter.unusedSimpArgs false
set_option linter.unusedVariables false
set_option linter.unusedSectionVars false
section
variable {P : Program} {w0 w w' : World} {okA : Nat → Prop} {ext : Ext} {N : Nat} {s : AS} {a : Act} {E : Env} {o : Oper} {K : Act → World → Prop} {Q : Exit → Act → World → Prop} [hT : Tabs P w0 okA ext]
def callsOut : Ins → Bool
 | .call _ _ => true
 | .callx _ _ => true
 | .callm _ _ _ => true
 | .pick _ _ _ => true
 | _ => false
theorem elem_of {t : TypeId} {p : TypeId × TypeInfo} (h : elemOfSlice P t = some p) : P.underlying t = some (.slice p.1) ∧ P.info? p.1 = some p.2 := by
 unfold elemOfSlice at h
 split at h
 ·rename_i e hu
  simp only [Option.map_eq_some_iff] at h
  obtain ⟨i, hi, rfl⟩ := h
  exact ⟨hu, hi⟩
 ·cases h
theorem ty_of {t : TypeId} {p : Bool × Nat} (h : tyOf P t = some p) : ∃ d i, P.underlying t = some d ∧ P.info? t = some i ∧ p = (isAggB d, i.size) := by
 unfold tyOf at h
 split at h
 ·rename_i d i hu hi; simp only [Option.some.injEq] at h; exact ⟨d, i, hu, hi, h.symm⟩
 ·cases h
theorem ins_sound (h : St w0 okA ext N s a w E) {i : Ins} (hc : compileIns P o = some i) (hn : callsOut i = false) (hd : ∀ k, o.dst = some k → k < N)
  (hK : SGood (estep o.dst i s) (Serves w0 okA ext N K)) : o.wp P a w K Q := by
 unfold compileIns at hc
 split at hc
 case h_1 x ho => simp only [Option.map_eq_some_iff] at hc; obtain ⟨y, hy, rfl⟩ := hc; exact s_mv h hy (.inl ho) hd hK
 case h_2 x ho => simp only [Option.map_eq_some_iff] at hc; obtain ⟨y, hy, rfl⟩ := hc; exact s_mv h hy (.inr ho) hd hK
 case h_3 c x y ho => split at hc <;> first | (injection hc with hc; subst hc; cases hn) | cases hc
 case h_4 t ho =>
  simp only [Option.map_eq_some_iff] at hc
  obtain ⟨z, hz, hc⟩ := hc
  split at hc
  ·rename_i hb; subst hc; exact s_bld h hz hb ho hd hK
  ·subst hc; exact s_alloc h hz ho hd hK
 case h_5 t x ho => simp only [Option.map_eq_some_iff] at hc; obtain ⟨y, hy, rfl⟩ := hc; exact s_box h hy ho hd hK
 case h_6 t parts ho =>
  split at hc
  ·rename_i z pl ps hz hpl hps; injection hc with hc; subst hc; exact s_build h hz hps hpl ho hd hK
  ·cases hc
 case h_7 t len parts ho =>
  split at hc
  ·rename_i e inf ps he hps
   split at hc
   ·rename_i hcond; injection hc with hc; subst hc
    obtain ⟨hu, hi⟩ := elem_of he
    exact s_bslice h hu hi hps hcond.1 hcond.2.1 hcond.2.2.1 hcond.2.2.2.1 hcond.2.2.2.2 ho hd hK
   ·cases hc
  ·cases hc
 case h_8 t x ho =>
  split at hc
  ·rename_i ag n y ht hy; injection hc with hc; subst hc
   obtain ⟨d, inf, hu, hi, he⟩ := ty_of ht
   simp only [Prod.mk.injEq] at he; obtain ⟨rfl, rfl⟩ := he
   exact s_load h hy hu hi ho hd hK
  ·cases hc
 case h_9 t x v ho =>
  split at hc
  ·rename_i ag n y y' ht hy hy'; injection hc with hc; subst hc
   obtain ⟨d, inf, hu, hi, he⟩ := ty_of ht
   simp only [Prod.mk.injEq] at he; obtain ⟨_, rfl⟩ := he
   exact s_store h hy hy' hi ho hd hK
  ·cases hc
 case h_10 x ho => simp only [Option.map_eq_some_iff] at hc; obtain ⟨y, hy, rfl⟩ := hc; exact s_nilchk h hy ho hd hK
 case h_11 op t x y t' ho =>
  split at hc
  ·rename_i y' y'' hy hy'
   split at hc
   ·rename_i neg agg ks he; injection hc with hc; subst hc; exact s_eqs h hy hy' he ho hd hK
   ·injection hc with hc; subst hc; exact s_bin h hy hy' ho hd hK
  ·cases hc
 case h_12 op t x ho => simp only [Option.map_eq_some_iff] at hc; obtain ⟨y, hy, rfl⟩ := hc; exact s_un h hy ho hd hK
 case h_13 src dst x ho =>
  split at hc
  ·rename_i d k y hs hdst hy; injection hc with hc; subst hc; exact s_conv h hy hs hdst ho hd hK
  ·rename_i k y hs hdst hy; injection hc with hc; subst hc; exact s_chr h hy hs hdst ho hd hK
  ·rename_i e n hs hdst hy
   split at hc
   ·rename_i he; injection hc with hc; subst hc; exact s_str h hy hs (isByteT_of he) hdst ho hd hK
   ·cases hc
  ·cases hc
 case h_14 f first caps ho =>
  split at hc
  ·rename_i cs hcs
   split at hc
   ·rename_i hf; injection hc with hc; subst hc; exact s_mkfn h hcs (.inl ⟨hf.1, rfl, hf.2, rfl⟩) ho hd hK
   ·split at hc
    ·rename_i fs hfs
     split at hc
     ·rename_i h0; injection hc with hc; subst hc; exact s_mkfn h hfs (.inr ⟨h0, rfl, rfl⟩) ho hd hK
     ·cases hc
    ·cases hc
  ·cases hc
 case h_15 t x lo hi ho =>
  split at hc
  ·rename_i e inf y he hy
   obtain ⟨hu, hi'⟩ := elem_of he
   split at hc
   ·injection hc with hc; subst hc; exact s_slc h hy hu hi' none none none none (.inl ⟨rfl, rfl⟩) (.inl ⟨rfl, rfl⟩) ho hd hK
   ·rename_i l; simp only [Option.map_eq_some_iff] at hc; obtain ⟨l', hl, rfl⟩ := hc
    exact s_slc h hy hu hi' (some l) none (some l') none (.inr ⟨l, l', rfl, rfl, hl⟩) (.inl ⟨rfl, rfl⟩) ho hd hK
   ·rename_i l; simp only [Option.map_eq_some_iff] at hc; obtain ⟨l', hl, rfl⟩ := hc
    exact s_slc h hy hu hi' none (some l) none (some l') (.inl ⟨rfl, rfl⟩) (.inr ⟨l, l', rfl, rfl, hl⟩) ho hd hK
   ·rename_i l m
    split at hc
    ·rename_i l' m' hl hm; injection hc with hc; subst hc
     exact s_slc h hy hu hi' (some l) (some m) (some l') (some m') (.inr ⟨l, l', rfl, rfl, hl⟩) (.inr ⟨m, m', rfl, rfl, hm⟩) ho hd hK
    ·cases hc
  ·rename_i y _ hy
   split at hc
   ·rename_i hu; exact s_ssub h hy hu lo hi hc ho hd hK
   ·cases hc
  ·cases hc
 case h_16 t x k ho =>
  split at hc
  ·rename_i f y hf hy
   split at hc
   ·rename_i inf hi
    split at hc
    ·cases hc
    ·rename_i hz; injection hc with hc; subst hc; exact s_fadr h hy hf hi hz ho hd hK
   ·cases hc
  ·cases hc
 case h_17 t x k ho =>
  split at hc
  ·rename_i f y hf hy
   split at hc
   ·rename_i ag n ht; injection hc with hc; subst hc
    obtain ⟨d, inf, hu, hi, he⟩ := ty_of ht
    simp only [Prod.mk.injEq] at he; obtain ⟨rfl, rfl⟩ := he
    exact s_fld h hy hf hu hi ho hd hK
   ·cases hc
  ·cases hc
 case h_18 t x i ho =>
  split at hc
  ·rename_i e inf y y' he hy hy'; injection hc with hc; subst hc
   obtain ⟨hu, hi⟩ := elem_of he
   exact s_iadr h hy hy' hu hi ho hd hK
  ·rename_i y y' _ hy hy'
   unfold aadrOf at hc
   split at hc
   ·rename_i n e hu
    simp only [Option.map_eq_some_iff] at hc; obtain ⟨inf, hi, rfl⟩ := hc
    exact s_aadr h hy hy' hu hi ho hd hK
   ·cases hc
  ·cases hc
 case h_19 t x i ho =>
  split at hc
  ·rename_i y y' hu hy hy'; injection hc with hc; subst hc; exact s_idx h hy hy' hu ho hd hK
  ·cases hc
 case h_20 x i ho => simp only [Option.map_eq_some_iff] at hc; obtain ⟨y, hy, rfl⟩ := hc; exact s_extr h hy ho hd hK
 case h_21 args ts ho =>
  split at hc
  ·rename_i x e hargs hu
   simp only [Option.map_eq_some_iff] at hc; obtain ⟨y, hy, rfl⟩ := hc
   simp only [Option.bind_eq_some_iff] at hu
   obtain ⟨t, ht, hu⟩ := hu
   have : args = #[x] := by apply Array.ext'; simpa using hargs
   subst this
   exact s_len h hy ht hu ho hd hK
  ·rename_i x hargs hu
   simp only [Option.map_eq_some_iff] at hc; obtain ⟨y, hy, rfl⟩ := hc
   simp only [Option.bind_eq_some_iff] at hu
   obtain ⟨t, ht, hu⟩ := hu
   have : args = #[x] := by apply Array.ext'; simpa using hargs
   subst this
   exact s_slen h hy ht hu ho hd hK
  ·cases hc
 case h_22 args ts ho =>
  split at hc
  ·rename_i x y hargs
   split at hc
   ·rename_i x' y' hx hy; injection hc with hc; subst hc
    have : args = #[x, y] := by apply Array.ext'; simpa using hargs
    subst this
    exact s_mnx (mx := true) h hx hy ho hd hK
   ·cases hc
  ·cases hc
 case h_23 args ts ho =>
  split at hc
  ·rename_i x y hargs
   split at hc
   ·rename_i x' y' hx hy; injection hc with hc; subst hc
    have : args = #[x, y] := by apply Array.ext'; simpa using hargs
    subst this
    exact s_mnx (mx := false) h hx hy ho hd hK
   ·cases hc
  ·cases hc
 case h_24 args ts ho =>
  split at hc
  ·rename_i x y t t' hargs hts
   split at hc
   ·rename_i e inf x' y' he hx hy
    split at hc
    ·rename_i hcond; injection hc with hc; subst hc
     obtain ⟨rfl, _, hzero⟩ := hcond
     obtain ⟨hu, hi⟩ := elem_of he
     have h1 : args = #[x, y] := by apply Array.ext'; simpa using hargs
     have h2 : ts = #[t, t] := by apply Array.ext'; simpa using hts
     subst h1; subst h2
     exact s_append h hx hy hu hi hzero ho hd hK
    ·unfold appStrOf at hc
     split at hc
     ·split at hc
      ·rename_i hcond; injection hc with hc; subst hc
       obtain ⟨hu8, hst⟩ := hcond
       obtain ⟨hz0, hsz, hby⟩ := isU8_of hu8
       obtain ⟨hu, hi⟩ := elem_of he
       have h1 : args = #[x, y] := by apply Array.ext'; simpa using hargs
       have h2 : ts = #[t, t'] := by apply Array.ext'; simpa using hts
       subst h1; subst h2
       exact s_appstr h hx hy hu (isStrT_of hst) hi hz0 hsz hby ho hd hK
      ·cases hc
     ·cases hc
   ·cases hc
  ·cases hc
 case h_25 f args ts ho =>
  split at hc
  ·injection hc with hc; subst hc; split at hn <;> cases hn
  ·cases hc
 case h_26 args ts ho =>
  split at hc
  ·rename_i x t hargs hts
   split at hc
   ·rename_i e inf x' he hx
    split at hc
    ·rename_i z hz
     split at hc
     ·rename_i hzl; injection hc with hc; subst hc
      obtain ⟨hu, hi⟩ := elem_of he
      have h1 : args = #[x] := by apply Array.ext'; simpa using hargs
      have h2 : ts = #[t] := by apply Array.ext'; simpa using hts
      subst h1; subst h2
      exact s_clr h hx hu hi hz hzl ho hd hK
     ·cases hc
    ·cases hc
   ·cases hc
  ·cases hc
 case h_27 t l c ho =>
  split at hc
  ·rename_i e inf l' c' he hl hl2
   split at hc
   ·rename_i z hz
    split at hc
    ·rename_i hzl; injection hc with hc; subst hc
     obtain ⟨hu, hi⟩ := elem_of he
     exact s_mkr h hl hl2 hu hi hz hzl ho hd hK
    ·cases hc
   ·cases hc
  ·cases hc
 case h_28 t ho =>
  simp only [Option.map_eq_some_iff] at hc; obtain ⟨p, hp, rfl⟩ := hc
  obtain ⟨kt, d, hu, hud, hk⟩ := map_of hp
  exact s_mkm h hu (.inl rfl) ho hd hK
 case h_29 t q n ho =>
  simp only [Option.map_eq_some_iff] at hc; obtain ⟨p, hp, rfl⟩ := hc
  obtain ⟨kt, d, hu, hud, hk⟩ := map_of hp
  exact s_mkm h hu (.inr ⟨_, _, rfl⟩) ho hd hK
 case h_30 t m k v ho =>
  split at hc
  ·rename_i p m' k' v' hp hm hk' hv; injection hc with hc; subst hc
   obtain ⟨kt, d, hu, hud, hk⟩ := map_of hp
   exact s_mup h hm hk' hv hu hud hk (.inl ho) hd hK
  ·cases hc
 case h_31 t m k v ho =>
  split at hc
  ·rename_i p m' k' v' hp hm hk' hv; injection hc with hc; subst hc
   obtain ⟨kt, d, hu, hud, hk⟩ := map_of hp
   exact s_mup h hm hk' hv hu hud hk (.inr ho) hd hK
  ·cases hc
 case h_32 t m k ok ho =>
  split at hc
  ·rename_i p m' k' hp hm hk'
   split at hc
   ·rename_i z hz; injection hc with hc; subst hc
    obtain ⟨kt, d, hu, hud, hk⟩ := map_of hp
    exact s_mlk h hm hk' hu hud hk hz (map_kind hp hz) ho hd hK
   ·cases hc
  ·cases hc
 case h_33 args ts ho =>
  split at hc
  ·rename_i m k t t2 hargs hts
   split at hc
   ·rename_i p m' k' hp hm hk'; injection hc with hc; subst hc
    obtain ⟨kt, d, hu, hud, hk⟩ := map_of hp
    have h1 : args = #[m, k] := by apply Array.ext'; simpa using hargs
    have h2 : ts = #[t, t2] := by apply Array.ext'; simpa using hts
    subst h1; subst h2
    exact s_mdl h hm hk' hu hud hk ho hd hK
   ·cases hc
  ·cases hc
 case h_34 => cases hc
/-! ### the step with guards and calls -/
/-- What is called, and with what. -/
def calleeV (f : Val) (args : List Val) : Option (FuncId × List Val) :=
 match f with
 | .one (.fn g caps) => some (g, args ++ caps.map Val.one)
 | .one (.mv g caps) => match args with
  | [] => some (g, caps.map Val.one)
  | _ => none
 | .one (.g (.func (.func g) fs us)) => if fs.size = 0 ∧ us.size = 0 then some (g, args) else none
 | _ => none
def callP (P : Program) (s : AS) (d : Option Nat) (f : Val) (args : List Val) (T : AS → Prop) : Prop :=
 match calleeV f args with
 | some (g, as) => ∃ R, FC P g none (as.map s.view) R ∧ (∃ cs r, R cs r) ∧
   ∀ cs r, R cs r → (freshV r = true ∨ (dataRV r = true ∧ as.all plainV = true)) ∧ T (s.put d r)
 | none => False
def callX (P : Program) (s : AS) (d : Option Nat) (f : Val) (k : Nat) (rest : List Val) (T : AS → Prop) : Prop :=
 match f, s.bx k with
 | .one (.fn f []), some cs => bldK k = false ∧ cs.all plainC = true ∧ rest.all plainV = true ∧ ∃ R, FC P f (some (cs.map s.viewC)) (rest.map s.view) R ∧ (∃ cs r, R cs r) ∧
   ∀ cs' r, R cs' r → dataRV r = true ∧ cs'.all dataRC = true ∧ T ({ s with bx := upd s.bx k (some cs') }.put d r)
 | _, _ => False
def callXS (P : Program) (s : AS) (d : Option Nat) (f : Val) (args : List Val) (T : AS → Prop) : Prop :=
 match args with
 | .one (.bx k 0) :: rest => callX P s d f k rest T
 | _ => False
theorem list_rel {l : List Operand} {ys : List Opd} (h : St w0 okA ext N s a w E) (hy : l.mapM opd = some ys) : ∀ (i : Nat) (x : Val) (u : Value), (ys.map s.ev)[i]? = some x → (l.map a.eval)[i]? = some u → VRel w (okE w0 okA E) w0.heap.size E x u := by
 intro i x u h1 h2
 rw [List.getElem?_map] at h1 h2
 cases hl : l[i]? with
 | none => rw [hl] at h2; cases h2
 | some p =>
  rw [hl] at h2; simp at h2; subst h2
  have h3 := mapM_at hy hl
  cases hy' : ys[i]? with
  | none => rw [hy'] at h1; cases h1
  | some q =>
   rw [hy'] at h1 h3; simp at h1; subst h1
   exact ev_rel h h3.symm
theorem run_call' {f : FuncId} {fs us : List Value} {fo : Operand} {args : Array Operand} {ts : Array TypeId} (ho : o.op = .call { callee := .value fo, args, argTypes := ts }) (hf : a.eval fo = .func (.func f) fs.toArray us.toArray) (hb : hasBody P f) :
  (execOp a.eval o).run P w = .ok (.enter f (fs ++ args.toList.map a.eval ++ us).toArray) w := by
 obtain ⟨fn, h1, h2, h3⟩ := hb
 have h5 : ¬ fn.name = "runtime.NumGoroutine" := by simpa using h3
 have h6 : ¬ fn.body = none := by
  cases hb : fn.body with
  | none => rw [hb] at h2; cases h2
  | some c => simp
 simp [execOp, ho, resolve, hf, Deferred.ofValue, invoke, callFunc, h1]
 rw [if_neg h5, if_neg h6, show fs.toArray ++ (args.map a.eval ++ us.toArray) = (fs ++ (args.toList.map a.eval ++ us)).toArray by apply Array.ext'; simp]
theorem run_call {f : FuncId} {us : List Value} {fo : Operand} {args : Array Operand} {ts : Array TypeId} (ho : o.op = .call { callee := .value fo, args, argTypes := ts }) (hf : a.eval fo = .func (.func f) #[] us.toArray) (hb : hasBody P f) :
  (execOp a.eval o).run P w = .ok (.enter f (args.toList.map a.eval ++ us).toArray) w := run_call' (fs := []) ho hf hb
theorem callee_rel (h : St w0 okA ext N s a w E) {fo : Operand} {args : Array Operand} {ts : Array TypeId} {fy : Opd} {ys : List Opd} (ho : o.op = .call { callee := .value fo, args, argTypes := ts }) (hf : opd fo = some fy) (hy : args.toList.mapM opd = some ys)
  {g : FuncId} {as : List Val} (hc : calleeV (s.ev fy) (ys.map s.ev) = some (g, as)) : ∃ us : List Value, as.length = us.length ∧ (∀ (i : Nat) (x : Val) (u : Value), as[i]? = some x → us[i]? = some u → VRel w (okE w0 okA E) w0.heap.size E x u) ∧
   (hasBody P g → (execOp a.eval o).run P w = .ok (.enter g us.toArray) w) := by
 have hrel := list_rel h hy
 have hlen : ys.length = args.toList.length := mapM_len hy
 have hfr := ev_rel h hf
 have hcap : ∀ {caps : List Cel} {us : List Value}, (∀ (i : Nat) (c : Cel) (u : Value), caps[i]? = some c → us[i]? = some u → CRel0 w (okE w0 okA E) w0.heap.size E c u) → ∀ (i : Nat) (x : Val) (u : Value), (caps.map Val.one)[i]? = some x → us[i]? = some u → VRel w (okE w0 okA E) w0.heap.size E x u := fun {caps us} hcaps i x u hx hu => by
  rw [List.getElem?_map] at hx
  cases hi : caps[i]? with
  | none => rw [hi] at hx; cases hx
  | some c0 => rw [hi] at hx; simp at hx; subst hx; exact .one (hcaps _ c0 u hi hu).toC
 unfold calleeV at hc
 split at hc
 ·rename_i f caps hfv
  simp only [Option.some.injEq, Prod.mk.injEq] at hc
  obtain ⟨rfl, rfl⟩ := hc
  obtain ⟨us, hfe, hul, hcaps⟩ := one_c hfr hfv
  refine ⟨args.toList.map a.eval ++ us, by simp at hlen ⊢; omega, fun i x u hx hu => ?_, fun hb => run_call ho hfe hb⟩
  rw [List.getElem?_append] at hx hu
  have h7 : (ys.map s.ev).length = (args.toList.map a.eval).length := by simpa using hlen
  rw [h7] at hx
  split at hx
  ·rename_i hlt; rw [if_pos hlt] at hu; exact hrel i x u hx hu
  ·rename_i hlt; rw [if_neg hlt] at hu; exact hcap hcaps _ x u hx hu
 ·rename_i f caps hfv
  obtain ⟨us, hfe, hul, hcaps⟩ := one_c hfr hfv
  split at hc
  ·rename_i hnil
   simp only [Option.some.injEq, Prod.mk.injEq] at hc
   obtain ⟨rfl, rfl⟩ := hc
   have h0 : args.toList.map a.eval = [] := by
    have h1 : ys = [] := List.map_eq_nil_iff.1 hnil
    rw [h1] at hlen
    rw [List.eq_nil_of_length_eq_zero hlen.symm]; rfl
   refine ⟨us, by simpa using hul, hcap hcaps, fun hb => ?_⟩
   have := run_call' (fs := us) (us := []) (P := P) (w := w) ho hfe hb
   rw [h0] at this
   simpa using this
  ·cases hc
 ·rename_i f fs us hfv
  have hfe := one_g hfr hfv
  split at hc
  ·rename_i hz
   simp only [Option.some.injEq, Prod.mk.injEq] at hc
   obtain ⟨rfl, rfl⟩ := hc
   rw [Array.size_eq_zero_iff.1 hz.1, Array.size_eq_zero_iff.1 hz.2] at hfe
   exact ⟨args.toList.map a.eval, by simpa using hlen, hrel, fun hb => by simpa using run_call (us := []) ho hfe hb⟩
  ·cases hc
 ·cases hc
theorem callx_sound (h : St w0 okA ext N s a w E) {fo : Operand} {args : Array Operand} {ts : Array TypeId} {fy : Opd} {ys : List Opd} (ho : o.op = .call { callee := .value fo, args, argTypes := ts }) (hf : opd fo = some fy) (hy : args.toList.mapM opd = some ys)
  (hd : ∀ k, o.dst = some k → k < N) (hK : callXS P s o.dst (s.ev fy) (ys.map s.ev) (Serves w0 okA ext N K)) : o.wp P a w K Q := by
 have hrel := list_rel h hy
 have hlen : ys.length = args.toList.length := mapM_len hy
 have hfr := ev_rel h hf
 have hsz := h.frame.size
 unfold callXS at hK
 split at hK
 ·rename_i k rest hargs
  unfold callX at hK
  split at hK
  ·rename_i f cs hfv hs
   obtain ⟨hbk, hp1, hp2, R, hFC, _, hR⟩ := hK
   obtain ⟨us, hfe, hul, _⟩ := one_c hfr hfv
   have hus : us = [] := List.eq_nil_of_length_eq_zero (by simpa using hul.symm)
   subst hus
   obtain ⟨y0, ys', rfl⟩ : ∃ y0 ys', ys = y0 :: ys' := by cases ys with | nil => simp at hargs | cons y ys => exact ⟨y, ys, rfl⟩
   obtain ⟨p0, l', hl⟩ : ∃ p0 l', args.toList = p0 :: l' := by cases hal : args.toList with | nil => rw [hal] at hlen; simp at hlen | cons p l => exact ⟨p, l, rfl⟩
   simp only [List.map_cons, List.cons.injEq] at hargs
   obtain ⟨hy0, rfl⟩ := hargs
   rw [hl] at hrel hlen
   have h0 := hrel 0 _ _ rfl rfl
   rw [hy0] at h0
   obtain ⟨g, hg, hp⟩ := one_c h0 rfl
   obtain ⟨g', cur, ty, h1, h2, h3⟩ := h.bx k cs hs
   rw [hg] at h1; injection h1 with h1; subst h1
   have hrun := run_call (P := P) (w := w) ho hfe hFC.1
   rw [hl] at hrun
   unfold Oper.wp
   rw [hrun, Oper.upon_enter]
   have hc := hFC.2 w (okE w0 okA E) g (l'.map a.eval) h.tab.1 (fun cs' hcs' => by
    simp only [Option.some.injEq] at hcs'; subst hcs'
    exact ⟨fun ho => ho.1 k hg, cur, ty, h2, plain_relCs h3 hp1⟩) (by simp at hlen ⊢; omega) (fun i x u hx hu => by
    rw [List.getElem?_map] at hx
    cases hi : (ys'.map s.ev)[i]? with
    | none => rw [hi] at hx; cases hx
    | some x0 =>
     rw [hi] at hx; simp at hx; subst hx
     exact plain_relV (hrel (i + 1) x0 u (by simpa using hi) (by simpa using hu)) (List.all_eq_true.1 hp2 x0 (List.mem_of_getElem? hi)))
   have harr : ((if (some (cs.map s.viewC)).isSome then [Value.pointer (some ⟨g, 0, none⟩)] else []) ++ l'.map a.eval).toArray = ((p0 :: l').map a.eval ++ []).toArray := by simp [hp]
   rw [harr] at hc
   refine Calls.mono hc ?_
   rintro e w1 ⟨v, cs', r, rfl, hRr, hgr, hv, hbox⟩
   obtain ⟨hd1, hd2, hT⟩ := hR cs' r hRr
   obtain ⟨cur', ty', hw1, hcs'⟩ := hbox rfl
   have hgr' : w.grownBy w1 (some g) := hgr
   have hokn : ∀ b, w.heap.size ≤ b → okE w0 okA E b := fun b hb => ⟨fun j hj => by have := h.glt hj; omega, fun j ver z u hj hu => by have := h.rlt hj hu; omega, .inl (Nat.le_trans hsz hb)⟩
   have hcs2 : CsRel w1 (okE w0 okA E) w0.heap.size E cs' cur'.toList := ⟨hcs'.1, fun i c u h4 h5 => back_relC h (hcs'.2 i c u h4 h5) (fun b hb _ => hokn b hb) (.inr ⟨List.all_eq_true.1 hd2 c (List.mem_of_getElem? h4), fun b hb => hb.1.elim (hokn b) id⟩)⟩
   have hst := h.boxTurn hg hgr' hw1 hcs2 (fun hk => by rw [hbk] at hk; cases hk)
   have hv2 := back_relV (ok' := fun b => w.heap.size ≤ b ∨ okE w0 okA E b) h hv (fun b hb _ => hokn b hb) (.inr ⟨hd1, fun b hb => hb.elim (hokn b) id⟩)
   exact hT _ _ E (hst.put hv2 hd)
  ·exact hK.elim
 ·exact hK.elim
theorem callp_sound (h : St w0 okA ext N s a w E) {fo : Operand} {args : Array Operand} {ts : Array TypeId} {fy : Opd} {ys : List Opd} (ho : o.op = .call { callee := .value fo, args, argTypes := ts }) (hf : opd fo = some fy) (hy : args.toList.mapM opd = some ys)
  (hd : ∀ k, o.dst = some k → k < N) (hK : callP P s o.dst (s.ev fy) (ys.map s.ev) (Serves w0 okA ext N K)) : o.wp P a w K Q := by
 have hsz := h.frame.size
 unfold callP at hK
 split at hK
 ·rename_i f as hcv
  obtain ⟨R, hFC, _, hR⟩ := hK
  obtain ⟨us, hul, hall, hrun⟩ := callee_rel (P := P) h ho hf hy hcv
  have hrun := hrun hFC.1
  unfold Oper.wp
  rw [hrun, Oper.upon_enter]
  have hlen2 : (as.map s.view).length = us.length := by simpa using hul
  by_cases hpl : as.all plainV = true
  ·have hc := hFC.2 w (okE w0 okA E) 0 us h.tab.1 (fun cs h => by cases h) hlen2 (fun i x u hx hu => by
    rw [List.getElem?_map] at hx
    cases hi : as[i]? with
    | none => rw [hi] at hx; cases hx
    | some x0 =>
     rw [hi] at hx; simp at hx; subst hx
     exact plain_relV (hall i x0 u hi hu) (List.all_eq_true.1 hpl x0 (List.mem_of_getElem? hi)))
   refine Calls.mono hc ?_
   rintro e w1 ⟨v, cs', r, rfl, hRr, hgr, hv, _⟩
   obtain ⟨hcond, hT⟩ := hR cs' r hRr
   have hokn : ∀ b, w.heap.size ≤ b → okE w0 okA E b := fun b hb => ⟨fun j hj => by have := h.glt hj; omega, fun j ver z u hj hu => by have := h.rlt hj hu; omega, .inl (Nat.le_trans hsz hb)⟩
   exact hT _ _ E (h.called hgr hv (hcond.imp id (fun h => ⟨h.1, fun b hb => hb.elim (hokn b) id⟩)) hd)
  ·have hc := hFC.2 w (fun _ => True) 0 us h.tab.2 (fun cs h => by cases h) hlen2 (fun i x u hx hu => by
    rw [List.getElem?_map] at hx
    cases hi : as[i]? with
    | none => rw [hi] at hx; cases hx
    | some x0 =>
     rw [hi] at hx; simp at hx; subst hx
     exact view_relV h (hall i x0 u hi hu) (fun _ _ => trivial) (fun _ _ _ _ _ _ _ _ => trivial) (fun _ _ _ _ => trivial))
   refine Calls.mono hc ?_
   rintro e w1 ⟨v, cs', r, rfl, hRr, hgr, hv, _⟩
   obtain ⟨hcond, hT⟩ := hR cs' r hRr
   exact hT _ _ E (h.called hgr hv (hcond.imp id (fun h => absurd h.2 hpl)) hd)
 ·exact hK.elim
end
end Go.Ai
namespace Go.Ai
open Go
set_option linter.unusedSimpArgs false
set_option linter.unusedVariables false
set_option linter.unusedSectionVars false
/-- Boxes and rows, and what stands for them. -/
structure HRel (w : World) (ok : Nat → Prop) (base : Nat) (E : Env) (b : Nat → Option (List Cel)) (r : Nat → Option Row) : Prop where
 bx : ∀ k cs, b k = some cs → ∃ g cur ty, E.gm k = some g ∧ w.heap[g]? = some (.cells cur ty (0, 0)) ∧ CsRel w ok base E cs cur.toList
 bxn : ∀ k, b k = none → E.gm k = none
 rw : ∀ k r0, r k = some r0 → (r0.z = 0 → r0.ver = 0) ∧ rowOkZ r0.z r0.es ∧ ∃ u vs, E.rm k = some (r0.ver, r0.z, u) ∧ owns w 0 r0.E r0.z u r0.es.length vs ∧ RRel w ok base r0.es.flatten vs
 rwn : ∀ k, r k = none → E.rm k = none
 ginj : ∀ k k' g, E.gm k = some g → E.gm k' = some g → k = k'
 gr : ∀ k g k' ver z u, E.gm k = some g → E.rm k' = some (ver, z, u) → (blkV u) ≠ some g
 rr : ∀ k ver z u k' ver' z' u' b, E.rm k = some (ver, z, u) → E.rm k' = some (ver', z', u') → (blkV u) = some b → (blkV u') = some b → k = k'
/-- A block of a box or row of E's. -/
def Env.own (E : Env) (b : Nat) : Prop := (∃ k, E.gm k = some b) ∨ ∃ k ver z u, E.rm k = some (ver, z, u) ∧ (blkV u) = some b
/-- A contract of a function that is handed boxes and rows; R: those behind the call, new ones among them, and the result. S: rows of which it is told that they stay where they are. -/
def FCMS (P : Program) (f : FuncId) (S : List Nat) (H : Hp) (args : List Val) (R : Hp → Val → Prop) : Prop :=
 hasBody P f ∧ ∀ (w : World) (okA : Nat → Prop) (E : Env) (vs : List Value), TabB P w okA →
  HRel w okA w.heap.size E (tabO H.bs) (tabO H.rs) → (∀ b, E.own b → ¬ okA b) → TyB (fun t => isBld P t = true) w E →
  args.length = vs.length → (∀ (i : Nat) (x : Val) (u : Value), args[i]? = some x → vs[i]? = some u → VRel w okA w.heap.size E x u) →
  Calls P f vs.toArray w fun e w' => ∃ v H' r E', e = .returned v ∧ R H' r ∧ Grew E.own w w' ∧
   HRel w' (okE w okA E') w.heap.size E' (tabO H'.bs) (tabO H'.rs) ∧ VRel w' (okE w okA E') w.heap.size E' r v ∧
   (∀ k g g', E.gm k = some g → E'.gm k = some g' → g = g') ∧ (∀ k g, E'.gm k = some g → w.heap.size ≤ g ∨ E.gm k = some g) ∧
   (∀ k ver z u b, E'.rm k = some (ver, z, u) → (blkV u) = some b → w.heap.size ≤ b ∨ ∃ ver' z' u', E.rm k = some (ver', z', u') ∧ (blkV u') = some b) ∧
   (∀ k r0, tabO H'.rs k = some r0 → r0.ver = 0) ∧ (∀ k r0 r1, tabO H.rs k = some r0 → tabO H'.rs k = some r1 → r1.z = r0.z) ∧
   (∀ k ver ver' z z' u u', k ∈ S → E.rm k = some (ver, z, u) → E'.rm k = some (ver', z', u') → u = u') ∧ (∀ k g, bldK k = true → E.gm k = some g → E'.gm k = some g → ∃ cur T, w'.heap[g]? = some (.cells cur T (0, 0)) ∧ isBld P T = true)
abbrev FCM (P : Program) (f : FuncId) (H : Hp) (args : List Val) (R : Hp → Val → Prop) : Prop := FCMS P f [] H args R
/-! ### a call that is handed boxes and rows -/
/-- A cell as the callee is handed it. -/
def AS.passC0 (s : AS) (m : CAnn) : Cel → Cel
 | .g v => .g v
 | .sl _ z es => .sl false z es
 | .ep cs => .ep cs
 | .fm kc es => .fm kc es
 | .bx k off => if k ∈ m.bks then .bx k off else .any
 | .ow k ver => match s.rw k with
  | some r => if ver = r.ver ∧ k ∈ m.rks then .ow k 0 else .any
  | none => .any
 | .op k ver i off => match s.rw k with
  | some r => if ver = r.ver ∧ k ∈ m.rks then .op k 0 i off else .any
  | none => .any
 | .fn _ _ => .any
 | .mv _ _ => .any
 | .os _ _ _ => .any
 | .ws _ _ _ _ => .any
 | .mp k => if k ∈ m.rks then .mp k else .any
 | .any => .any
def AS.passC (s : AS) (m : CAnn) : Cel → Cel
 | .fn f caps => .fn f (caps.map (s.passC0 m))
 | .mv f caps => .mv f (caps.map (s.passC0 m))
 | c => s.passC0 m c
def AS.passV (s : AS) (m : CAnn) : Val → Val
 | .one c => .one (s.passC m c)
 | .ag cs => .ag (cs.map (s.passC m))
 | _ => .any
def AS.hp (s : AS) (m : CAnn) : Hp :=
 ⟨m.bks.filterMap fun k => (s.bx k).map fun cs => (k, cs.map (s.passC m)), m.rks.filterMap fun k => (s.rw k).map fun r => (k, { r with ver := 0, es := datE r.es })⟩
/-- The version of a row behind the call. -/
def AS.nv (s : AS) (m : CAnn) (k : Nat) : Nat := match s.rw k with
 | some r => if k ∈ m.sts then r.ver else r.ver + 1
 | none => 0
/-- What a function may bring back: boxes and values. -/
def capB : Cel → Bool
 | .bx _ _ => true
 | .g _ => true
 | _ => false
def AS.backC (s : AS) (m : CAnn) : Cel → Cel
 | .ow k _ => .ow k (s.nv m k)
 | .op k _ i off => .op k (s.nv m k) i off
 | .fn f caps => if caps.all capB then .fn f caps else .any
 | .mv _ _ => .any
 | .os _ _ _ => .any
 | .ws _ _ _ _ => .any
 | c => c
def AS.backV (s : AS) (m : CAnn) : Val → Val
 | .one c => .one (s.backC m c)
 | .ag cs => .ag (cs.map (s.backC m))
 | .tu vs => .tu (vs.map fun v => match v with | .one c => .one (s.backC m c) | .ag cs => .ag (cs.map (s.backC m)) | _ => .any)
 | .any => .any
def putB (s : AS) (m : CAnn) : List (Nat × List Cel) → (Nat → Option (List Cel)) → Nat → Option (List Cel)
 | [], b => b
 | (k, cs) :: l, b => upd (putB s m l b) k (some (cs.map (s.backC m)))
def putR (s : AS) (m : CAnn) : List (Nat × Row) → (Nat → Option Row) → Nat → Option Row
 | [], b => b
 | (k, r) :: l, b => upd (putR s m l b) k (some { r with ver := s.nv m k })
def AS.after (s : AS) (m : CAnn) (H : Hp) : AS := ⟨s.tm, putB s m H.bs s.bx, putR s m H.rs s.rw⟩
def okM (s : AS) (m : CAnn) : Bool :=
 m.bks.all (fun k => m.obs.contains k && (s.bx k).isSome) && m.rks.all (fun k => m.ors.contains k && (s.rw k).isSome) &&
 m.obs.all (fun k => m.bks.contains k || ((s.bx k).isNone && k != 0 && decide (k < 900000))) && m.ors.all (fun k => m.rks.contains k || ((s.rw k).isNone && decide (k < XK))) &&
 m.sts.all (fun k => m.rks.contains k) && m.rks.all (fun k => m.sts.contains k || (match s.rw k with | some r => r.z != 0 | none => true))
/-- What comes back lies in what was told; what went out comes back. -/
def hkB (m : CAnn) (H : Hp) : Bool :=
 (H.bs.map (·.1)).all (fun k => m.obs.contains k) && m.bks.all (fun k => (H.bs.map (·.1)).contains k) && (H.rs.map (·.1)).all (fun k => m.ors.contains k) && m.rks.all (fun k => (H.rs.map (·.1)).contains k)
def hkOk (m : CAnn) (H : Hp) : Prop := (H.bs.map (·.1) = m.obs ∧ H.rs.map (·.1) = m.ors) ∨ hkB m H = true
def callM (P : Program) (s : AS) (d : Option Nat) (fv : Val) (args : List Val) (m : CAnn) (T : AS → Prop) : Prop :=
 match calleeV fv args with
 | some (g, as) => okM s m = true ∧ ∃ R, FCMS P g m.sts (s.hp m) (as.map (s.passV m)) R ∧ (∃ H r, R H r) ∧
   ∀ H r, R H r → hkOk m H ∧ T ((s.after m H).put d (s.backV m r))
 | none => False
theorem tabO_none {α : Type} : ∀ {l : List (Nat × α)} {k : Nat}, k ∉ l.map (·.1) → tabO l k = none
 | [], k, _ => rfl
 | (j, v) :: l, k, h => by
  simp only [List.map_cons, List.mem_cons, not_or] at h
  simp only [tabO]
  rw [if_neg h.1, tabO_none h.2]
theorem tabO_some {α : Type} : ∀ {l : List (Nat × α)} {k : Nat}, k ∈ l.map (·.1) → ∃ v, tabO l k = some v
 | [], k, h => by simp at h
 | (j, v) :: l, k, h => by
  simp only [tabO]
  by_cases e : k = j
  ·rw [if_pos e]; exact ⟨v, rfl⟩
  ·rw [if_neg e]
   simp only [List.map_cons, List.mem_cons] at h
   exact tabO_some (h.resolve_left e)
theorem putB_at {s : AS} {m : CAnn} : ∀ (l : List (Nat × List Cel)) (b : Nat → Option (List Cel)) (k : Nat), putB s m l b k = if k ∈ l.map (·.1) then (tabO l k).map (fun cs => cs.map (s.backC m)) else b k
 | [], b, k => by simp [putB]
 | (j, cs) :: l, b, k => by
  simp only [putB, upd, tabO, List.map_cons, List.mem_cons]
  by_cases e : k = j
  ·simp [e]
  ·simp only [putB_at l b k, e, false_or, if_false]
theorem putR_at {s : AS} {m : CAnn} : ∀ (l : List (Nat × Row)) (b : Nat → Option Row) (k : Nat), putR s m l b k = if k ∈ l.map (·.1) then (tabO l k).map (fun r => { r with ver := s.nv m k }) else b k
 | [], b, k => by simp [putR]
 | (j, r) :: l, b, k => by
  simp only [putR, upd, tabO, List.map_cons, List.mem_cons]
  by_cases e : k = j
  ·simp [e]
  ·simp only [putR_at l b k, e, false_or, if_false]
section
variable {P : Program} {w0 w w' : World} {okA : Nat → Prop} {ext : Ext} {N : Nat} {s : AS} {a : Act} {E : Env} {o : Oper} {K : Act → World → Prop} {Q : Exit → Act → World → Prop} [hT : Tabs P w0 okA ext]
/-- What the callee's keys stand for. -/
def Env.pass (E : Env) (m : CAnn) : Env := ⟨fun k => if k ∈ m.bks then E.gm k else Option.none, fun k => if k ∈ m.rks then (E.rm k).map (fun x => (0, x.2)) else Option.none⟩
theorem pass_gm {m : CAnn} {k g : Nat} (h : (E.pass m).gm k = some g) : k ∈ m.bks ∧ E.gm k = some g := by
 simp only [Env.pass] at h; split at h
 ·rename_i hk; exact ⟨hk, h⟩
 ·cases h
theorem pass_rm {m : CAnn} {k ver z : Nat} {u : Value} (h : (E.pass m).rm k = some (ver, z, u)) : k ∈ m.rks ∧ ver = 0 ∧ ∃ ver', E.rm k = some (ver', z, u) := by
 simp only [Env.pass] at h; split at h
 ·rename_i hk
  cases hx : E.rm k with
  | none => rw [hx] at h; cases h
  | some x => obtain ⟨x1, x2, x3⟩ := x; rw [hx] at h; simp at h; obtain ⟨rfl, rfl, rfl⟩ := h; exact ⟨hk, rfl, x1, rfl⟩
 ·cases h
theorem pass_rel0 (h : St w0 okA ext N s a w E) (m : CAnn) {c : Cel} {v : Value} {base : Nat} (hc : CRel0 w (okE w0 okA E) w0.heap.size E c v) : CRel0 w (okE w0 okA E) base (E.pass m) (s.passC0 m c) v := by
 have hone := hc.oneC
 cases c with
 | g u => exact hc
 | any => exact hc
 | sl fr z es =>
  show DRel w (okE w0 okA E) (.sl false z es) v
  have h2 : DRel w (okE w0 okA E) (.sl fr z es) v := by
   cases fr with
   | false => exact hc
   | true => exact DRel.keep (ok := fun b => w0.heap.size ≤ b ∧ okE w0 okA E b) hc (.refl _ w) (fun b _ h => h.2)
  cases h2 with
  | nil => exact .nil
  | sl us h1 h2 h3 h4 h5 h6 h7 => exact .sl us h1 h2 h3 h4 h5 h6 h7
 | ep cs => exact hc
 | bx k off =>
  simp only [AS.passC0]
  split
  ·rename_i hk
   obtain ⟨g, hg, rfl⟩ := hc
   exact ⟨g, by simp [Env.pass, hk, hg], rfl⟩
  ·exact hone
 | ow k ver =>
  simp only [AS.passC0]
  cases hs : s.rw k with
  | none => exact hone
  | some r =>
   simp only []
   split
   ·rename_i hcond
    obtain ⟨h1, ver', z, u, hr, hle, hv, hzp⟩ := hc
    obtain ⟨_, _, u', _, hu', _⟩ := h.rw k r hs
    rw [hr] at hu'
    simp only [Option.some.injEq, Prod.mk.injEq] at hu'
    obtain ⟨rfl, rfl, rfl⟩ := hu'
    exact ⟨h1, 0, r.z, u, by simp [Env.pass, hcond.2, hr], Nat.le_refl _, fun _ => hv hcond.1, hzp⟩
   ·exact hone
 | op k ver i off =>
  simp only [AS.passC0]
  cases hs : s.rw k with
  | none => exact hone
  | some r =>
   simp only []
   split
   ·rename_i hcond
    obtain ⟨h1, ver', z, u, hr, hle, hv, hzp⟩ := hc
    obtain ⟨_, _, u', _, hu', _⟩ := h.rw k r hs
    rw [hr] at hu'
    simp only [Option.some.injEq, Prod.mk.injEq] at hu'
    obtain ⟨rfl, rfl, rfl⟩ := hu'
    exact ⟨h1, 0, r.z, u, by simp [Env.pass, hcond.2, hr], Nat.le_refl _, fun _ => hv hcond.1, hzp⟩
   ·exact hone
 | os k ver lo => exact hone
 | ws k ver lo hi => exact hone
 | mp k =>
  simp only [AS.passC0]
  split
  ·rename_i hin
   obtain ⟨h1, ver', u, hr, hv⟩ := hc
   exact ⟨h1, 0, u, by simp [Env.pass, hin, hr], hv⟩
  ·exact hone
 | fm kc es => exact hc
 | fn f caps => exact hc.elim
 | mv f caps => exact hc.elim
theorem pass_rel (h : St w0 okA ext N s a w E) (m : CAnn) {c : Cel} {v : Value} {base : Nat} (hc : CRel w (okE w0 okA E) w0.heap.size E c v) : CRel w (okE w0 okA E) base (E.pass m) (s.passC m c) v := by
 cases c with
 | fn f caps =>
  obtain ⟨us, rfl, hl, hcs⟩ := hc
  refine ⟨us, rfl, by simpa using hl, fun i c u h1 h2 => ?_⟩
  rw [List.getElem?_map] at h1
  cases hi : caps[i]? with
  | none => rw [hi] at h1; cases h1
  | some c0 => rw [hi] at h1; simp at h1; subst h1; exact pass_rel0 h m (hcs i c0 u hi h2)
 | mv f caps =>
  obtain ⟨us, rfl, hl, hcs⟩ := hc
  refine ⟨us, rfl, by simpa using hl, fun i c u h1 h2 => ?_⟩
  rw [List.getElem?_map] at h1
  cases hi : caps[i]? with
  | none => rw [hi] at h1; cases h1
  | some c0 => rw [hi] at h1; simp at h1; subst h1; exact pass_rel0 h m (hcs i c0 u hi h2)
 | g u => exact (pass_rel0 h m (c := .g u) hc).toC
 | sl fr z es => exact (pass_rel0 h m (c := .sl fr z es) hc).toC
 | ep cs => exact (pass_rel0 h m (c := .ep cs) hc).toC
 | bx k off => exact (pass_rel0 h m (c := .bx k off) hc).toC
 | ow k ver => exact (pass_rel0 h m (c := .ow k ver) hc).toC
 | op k ver i off => exact (pass_rel0 h m (c := .op k ver i off) hc).toC
 | os k ver lo => exact (pass_rel0 h m (c := .os k ver lo) hc).toC
 | ws k ver lo hi => exact (pass_rel0 h m (c := .ws k ver lo hi) hc).toC
 | mp k => exact (pass_rel0 h m (c := .mp k) hc).toC
 | fm kc es => exact (pass_rel0 h m (c := .fm kc es) hc).toC
 | any => exact (pass_rel0 h m (c := .any) hc).toC
theorem pass_relCs (h : St w0 okA ext N s a w E) (m : CAnn) {cs : List Cel} {us : List Value} {base : Nat} (hc : CsRel w (okE w0 okA E) w0.heap.size E cs us) : CsRel w (okE w0 okA E) base (E.pass m) (cs.map (s.passC m)) us := by
 refine ⟨by simpa using hc.1, fun i c u h2 h3 => ?_⟩
 rw [List.getElem?_map] at h2
 cases hi : cs[i]? with
 | none => rw [hi] at h2; cases h2
 | some c0 => rw [hi] at h2; simp at h2; subst h2; exact pass_rel h m (hc.2 i c0 u hi h3)
theorem pass_relV (h : St w0 okA ext N s a w E) (m : CAnn) {x : Val} {v : Value} {base : Nat} (hx : VRel w (okE w0 okA E) w0.heap.size E x v) : VRel w (okE w0 okA E) base (E.pass m) (s.passV m x) v := by
 cases hx with
 | one h1 => exact .one (pass_rel h m h1)
 | ag h1 => exact .ag (pass_relCs h m h1)
 | tu => exact .any
 | any => exact .any
theorem datE_flat {es : List (List Cel)} : (datE es).flatten = es.flatten.map Cel.dat := by simp [datE, List.map_flatten]
theorem dat_isD' {ok : Nat → Prop} {base base' : Nat} {c : Cel} {v : Value} (hd : c.isD = true) (h : CRel0 w ok base Env.none c v) : c.dat.isD = true ∧ CRel0 w ok base' Env.none c.dat v := by
 cases c with
 | g u => exact ⟨rfl, h⟩
 | any => exact ⟨rfl, h⟩
 | sl fr z es =>
  refine ⟨rfl, ?_⟩
  show DRel w ok (.sl false z es) v
  have h2 : DRel w ok (.sl fr z es) v := by
   cases fr with
   | false => exact h
   | true => exact DRel.keep (ok := fun b => base ≤ b ∧ ok b) h (.refl _ w) (fun b _ h => h.2)
  cases h2 with
  | nil => exact .nil
  | sl us h1 h2 h3 h4 h5 h6 h7 => exact .sl us h1 h2 h3 h4 h5 h6 h7
 | fm kc es => exact ⟨rfl, h⟩
 | ep cs => exact ⟨rfl, h⟩
 | _ => simp [Cel.isD] at hd
theorem dat_rel {ok : Nat → Prop} {base base' : Nat} {cs : List Cel} {us : List Value} (h : RRel w ok base cs us) : RRel w ok base' (cs.map Cel.dat) us := by
 refine ⟨by simpa using h.1, fun i c u h2 h3 => ?_⟩
 rw [List.getElem?_map] at h2
 cases hi : cs[i]? with
 | none => rw [hi] at h2; cases h2
 | some c0 =>
  rw [hi] at h2; simp at h2; subst h2
  obtain ⟨h4, h5⟩ := h.2 i c0 u hi h3
  exact dat_isD' h4 h5
theorem pass_hp (h : St w0 okA ext N s a w E) (m : CAnn) (base : Nat) : HRel w (okE w0 okA E) base (E.pass m) (tabO (s.hp m).bs) (tabO (s.hp m).rs) := by
 have hb : ∀ k, tabO (s.hp m).bs k = if k ∈ m.bks then (s.bx k).map (fun cs => cs.map (s.passC m)) else none := fun k => tabO_filterMap s.bx (fun _ cs => cs.map (s.passC m)) m.bks k
 have hr : ∀ k, tabO (s.hp m).rs k = if k ∈ m.rks then (s.rw k).map (fun r => { r with ver := 0, es := datE r.es }) else none := fun k => tabO_filterMap (β := Row) s.rw (fun _ r => { r with ver := 0, es := datE r.es }) m.rks k
 refine ⟨fun k cs hk => ?_, fun k hk => ?_, fun k r0 hk => ?_, fun k hk => ?_, fun k k' g h1 h2 => h.ginj k k' g (pass_gm h1).2 (pass_gm h2).2, fun k g k' ver z u h1 h2 => ?_, fun k ver z u k' ver' z' u' b h1 h2 => ?_⟩
 ·rw [hb] at hk
  split at hk
  ·rename_i hin
   cases hx : s.bx k with
   | none => rw [hx] at hk; cases hk
   | some cs0 =>
    rw [hx] at hk; simp at hk; subst hk
    obtain ⟨g, cur, ty, h1, h2, h3⟩ := h.bx k cs0 hx
    exact ⟨g, cur, ty, by simp [Env.pass, hin, h1], h2, pass_relCs h m h3⟩
  ·cases hk
 ·rw [hb] at hk
  simp only [Env.pass]
  split at hk
  ·rename_i hin; rw [if_pos hin]; exact h.bxn k (by simpa using hk)
  ·rename_i hin; rw [if_neg hin]
 ·rw [hr] at hk
  split at hk
  ·rename_i hin
   cases hx : s.rw k with
   | none => rw [hx] at hk; cases hk
   | some r1 =>
    rw [hx] at hk; simp at hk; subst hk
    obtain ⟨h1, h2, u, vs, h3, h4, h5⟩ := h.rw k r1 hx
    refine ⟨fun _ => rfl, ⟨fun hz e he => ?_, fun hz e he => ?_⟩, u, vs, by simp [Env.pass, hin, h3], by simpa [datE] using h4, by rw [datE_flat]; exact dat_rel h5⟩
    ·obtain ⟨e', h6, rfl⟩ := List.mem_map.1 he
     simpa using h2.1 hz e' h6
    ·obtain ⟨e', h6, rfl⟩ := List.mem_map.1 he
     obtain ⟨k1, c1, h7⟩ := h2.2 hz e' h6
     exact ⟨k1, c1.dat, by rw [h7]; rfl⟩
  ·cases hk
 ·rw [hr] at hk
  simp only [Env.pass]
  split at hk
  ·rename_i hin; rw [if_pos hin, h.rwn k (by simpa using hk)]; rfl
  ·rename_i hin; rw [if_neg hin]
 ·obtain ⟨_, _, v', h3⟩ := pass_rm h2
  exact h.gr k g k' v' z u (pass_gm h1).2 h3
 ·obtain ⟨_, _, v1, h3⟩ := pass_rm h1
  obtain ⟨_, _, v2, h4⟩ := pass_rm h2
  exact h.rr k v1 z u k' v2 z' u' b h3 h4
/-- Behind the call. -/
def Env.after (E E' : Env) (s : AS) (m : CAnn) : Env :=
 ⟨fun k => if k ∈ m.obs then E'.gm k else E.gm k, fun k => if k ∈ m.ors then (E'.rm k).map (fun x => (s.nv m k, x.2)) else E.rm k⟩
theorem St.called_m (h : St w0 okA ext N s a w E) {m : CAnn} (hm : okM s m = true) {H : Hp} {E' : Env} (hkb : H.bs.map (·.1) = m.obs) (hkr : H.rs.map (·.1) = m.ors) (hg : Grew (E.pass m).own w w')
  (hH : HRel w' (okE w (okE w0 okA E) E') w.heap.size E' (tabO H.bs) (tabO H.rs)) (hsame : ∀ k g g', (E.pass m).gm k = some g → E'.gm k = some g' → g = g') (hgm : ∀ k g, E'.gm k = some g → w.heap.size ≤ g ∨ (E.pass m).gm k = some g)
  (hrm : ∀ k ver z u b, E'.rm k = some (ver, z, u) → (blkV u) = some b → w.heap.size ≤ b ∨ ∃ ver' z' u', (E.pass m).rm k = some (ver', z', u') ∧ (blkV u') = some b)
  (hver : ∀ k r0, tabO H.rs k = some r0 → r0.ver = 0) (hz : ∀ k r0 r1, tabO (s.hp m).rs k = some r0 → tabO H.rs k = some r1 → r1.z = r0.z)
  (hstay : ∀ k ver ver' z z' u u', k ∈ m.sts → (E.pass m).rm k = some (ver, z, u) → E'.rm k = some (ver', z', u') → u = u')
  {d : Option Nat} {r : Val} {v : Value} (hv : VRel w' (okE w (okE w0 okA E) E') w.heap.size E' r v) (htb : ∀ k g, bldK k = true → (E.pass m).gm k = some g → E'.gm k = some g → ∃ cur T, w'.heap[g]? = some (.cells cur T (0, 0)) ∧ ext.bT T) (hd : ∀ k, d = some k → k < N) :
  St w0 okA ext N ((s.after m H).put d (s.backV m r)) (a.put d v) w' (E.after E' s m) := by
 simp only [okM, Bool.and_eq_true, List.all_eq_true, Bool.or_eq_true, List.contains_iff_mem, decide_eq_true_eq, bne_iff_ne, ne_eq] at hm
 obtain ⟨⟨⟨⟨⟨hm1, hm2⟩, hm3⟩, hm4⟩, hm5⟩, hm6⟩ := hm
 have hob : ∀ b, (E.pass m).own b → E.own b := fun b hb => by
  rcases hb with ⟨k, hk⟩ | ⟨k, ver, z, u, hk, hu⟩
  ·exact .inl ⟨k, (pass_gm hk).2⟩
  ·obtain ⟨_, _, v', h3⟩ := pass_rm hk; exact .inr ⟨k, v', z, u, h3, hu⟩
 have hownlt : ∀ b, E.own b → b < w.heap.size := fun b hb => by
  rcases hb with ⟨k, hk⟩ | ⟨k, ver, z, u, hk, hu⟩
  ·exact h.glt hk
  ·exact h.rlt hk hu
 have hokn : ∀ b, okE w0 okA E b → ¬ E.own b := fun b ho hb => by
  rcases hb with ⟨k, hk⟩ | ⟨k, ver, z, u, hk, hu⟩
  ·exact ho.1 k hk
  ·exact ho.2.1 k ver z u hk hu
 have hkeep : Keeps (okE w0 okA E) w w' := ⟨hg.size, fun b hb ho => hg.block b hb (fun hb' => hokn b ho (hob b hb'))⟩
 -- a key that is kept from the caller's side
 have hgold : ∀ k g, E.gm k = some g → k ∉ m.obs → ¬ (E.pass m).own g := fun k g hk hno ho => by
  rcases ho with ⟨j, hj⟩ | ⟨j, ver, z, u, hj, hu⟩
  ·obtain ⟨hj1, hj2⟩ := pass_gm hj
   have := h.ginj k j g hk hj2; subst this
   exact hno (hm1 k hj1).1
  ·obtain ⟨_, _, v', h3⟩ := pass_rm hj
   exact h.gr k g j v' z u hk h3 hu
 have hrold : ∀ k ver z u b, E.rm k = some (ver, z, u) → (blkV u) = some b → k ∉ m.ors → ¬ (E.pass m).own b := fun k ver z u b hk hu hno ho => by
  rcases ho with ⟨j, hj⟩ | ⟨j, ver', z', u', hj, hu'⟩
  ·exact h.gr j b k ver z u (pass_gm hj).2 hk hu
  ·obtain ⟨hj1, _, v', h3⟩ := pass_rm hj
   have := h.rr k ver z u j v' z' u' b hk h3 hu hu'; subst this
   exact hno (hm2 k hj1).1
 have hgm' : ∀ {k g}, (E.after E' s m).gm k = some g → (k ∈ m.obs ∧ E'.gm k = some g) ∨ (k ∉ m.obs ∧ E.gm k = some g) := fun {k g} hk => by
  simp only [Env.after] at hk; split at hk
  ·rename_i hin; exact .inl ⟨hin, hk⟩
  ·rename_i hin; exact .inr ⟨hin, hk⟩
 have hrm' : ∀ {k ver z u}, (E.after E' s m).rm k = some (ver, z, u) → (k ∈ m.ors ∧ ver = s.nv m k ∧ ∃ ver', E'.rm k = some (ver', z, u)) ∨ (k ∉ m.ors ∧ E.rm k = some (ver, z, u)) := fun {k ver z u} hk => by
  simp only [Env.after] at hk; split at hk
  ·rename_i hin
   cases hx : E'.rm k with
   | none => rw [hx] at hk; cases hk
   | some x => obtain ⟨x1, x2, x3⟩ := x; rw [hx] at hk; simp at hk; obtain ⟨rfl, rfl, rfl⟩ := hk; exact .inl ⟨hin, rfl, x1, rfl⟩
  ·rename_i hin; exact .inr ⟨hin, hk⟩
 have hg'lt : ∀ {k g}, E'.gm k = some g → g < w'.heap.size := fun {k g} hk => by
  cases hb : tabO H.bs k with
  | none => rw [hH.bxn k hb] at hk; cases hk
  | some cs =>
   obtain ⟨g', cur, ty, h1, h2, _⟩ := hH.bx k cs hb
   rw [h1] at hk; injection hk with hk; subst hk
   rcases Nat.lt_or_ge g' w'.heap.size with hl | hl
   ·exact hl
   ·rw [Array.getElem?_eq_none hl] at h2; cases h2
 -- the callee's blocks and the caller's others are apart
 have hapart1 : ∀ k g j g', E'.gm k = some g → E.gm j = some g' → j ∉ m.obs → g ≠ g' := fun k g j g' hk hj hno e => by
  subst e
  rcases hgm k g hk with h1 | h1
  ·have := h.glt hj; omega
  ·exact hgold j g hj hno (.inl ⟨_, h1⟩)
 have hapart2 : ∀ k g j ver z u, E'.gm k = some g → E.rm j = some (ver, z, u) → j ∉ m.ors → (blkV u) ≠ some g := fun k g j ver z u hk hj hno e => by
  rcases hgm k g hk with h1 | h1
  ·have := h.rlt hj e; omega
  ·exact hrold j ver z u g hj e hno (.inl ⟨_, h1⟩)
 have hrmo : ∀ {k ver z u b}, E'.rm k = some (ver, z, u) → (blkV u) = some b → w.heap.size ≤ b ∨ (E.pass m).own b := fun {k ver z u b} hk hu => by
  rcases hrm k ver z u b hk hu with h1 | ⟨v', z', u', h1, h2⟩
  ·exact .inl h1
  ·exact .inr (.inr ⟨k, v', z', u', h1, h2⟩)
 have hapart3 : ∀ k ver z u j g, E'.rm k = some (ver, z, u) → E.gm j = some g → j ∉ m.obs → (blkV u) ≠ some g := fun k ver z u j g hk hj hno e => by
  rcases hrmo hk e with h1 | h1
  ·have := h.glt hj; omega
  ·exact hgold j g hj hno h1
 have hapart4 : ∀ k ver z u j ver' z' u' b, E'.rm k = some (ver, z, u) → E.rm j = some (ver', z', u') → j ∉ m.ors → (blkV u) = some b → (blkV u') ≠ some b := fun k ver z u j ver' z' u' b hk hj hno e e' => by
  rcases hrmo hk e with h1 | h1
  ·have := h.rlt hj e'; omega
  ·exact hrold j ver' z' u' b hj e' hno h1
 have hle : EnvLe E (E.after E' s m) := by
  refine ⟨fun k g hk => ?_, fun k ver z u hk => ?_⟩
  ·simp only [Env.after]
   split
   ·rename_i hin
    have hbk : k ∈ m.bks := by
     rcases hm3 k hin with h1 | h1
     ·exact h1
     ·have := h.bxn k (by simpa using h1.1.1); rw [this] at hk; cases hk
    obtain ⟨cs, hcs⟩ := tabO_some (l := H.bs) (k := k) (by rw [hkb]; exact hin)
    obtain ⟨g', cur, ty, h1, _⟩ := hH.bx k cs hcs
    have := hsame k g g' (by simp [Env.pass, hbk, hk]) h1
    subst this; exact h1
   ·exact hk
  ·simp only [Env.after]
   split
   ·rename_i hin
    have hrk : k ∈ m.rks := by
     rcases hm4 k hin with h1 | h1
     ·exact h1
     ·have := h.rwn k (by simpa using h1.1); rw [this] at hk; cases hk
    obtain ⟨r1, hr1⟩ := tabO_some (l := H.rs) (k := k) (by rw [hkr]; exact hin)
    obtain ⟨_, _, u', _, h1, _⟩ := hH.rw k r1 hr1
    cases hsr : s.rw k with
    | none => rw [h.rwn k hsr] at hk; cases hk
    | some r0 =>
     obtain ⟨_, _, u0, _, h2, _⟩ := h.rw k r0 hsr
     rw [hk] at h2; simp only [Option.some.injEq, Prod.mk.injEq] at h2
     obtain ⟨rfl, rfl, rfl⟩ := h2
     have hzz := hz k _ r1 (show tabO (s.hp m).rs k = some { r0 with ver := 0, es := datE r0.es } by
      have := tabO_filterMap (β := Row) s.rw (fun _ r => { r with ver := 0, es := datE r.es }) m.rks k
      simp only [AS.hp, this, hrk, if_true, hsr, Option.map_some]) hr1
     by_cases hst : k ∈ m.sts
     ·have hnv : s.nv m k = r0.ver := by simp [AS.nv, hsr, hst]
      have h9 : (E.pass m).rm k = (E.rm k).map (fun x => (0, x.2)) := by simp only [Env.pass, if_pos hrk]
      rw [hk] at h9
      simp only [Option.map_some] at h9
      refine ⟨s.nv m k, u', by rw [h1]; simp only [Option.map_some, Option.some.injEq, Prod.mk.injEq, true_and, and_true]; exact hzz, by omega, fun _ => hstay k _ _ _ _ _ _ hst h9 h1⟩
     ·have hnv : s.nv m k = r0.ver + 1 := by simp [AS.nv, hsr, hst]
      refine ⟨s.nv m k, u', by rw [h1]; simp only [Option.map_some, Option.some.injEq, Prod.mk.injEq, true_and, and_true]; exact hzz, by omega, fun e => ?_⟩
      exfalso
      rcases e with e | e
      ·omega
      ·rcases hm6 k hrk with h7 | h7
       ·exact hst h7
       ·rw [hsr] at h7; simp at h7; exact h7 e
   ·exact ⟨ver, u, hk, Nat.le_refl _, fun _ => rfl⟩
 have hok : ∀ b, b < w.heap.size → okE w0 okA E b → okE w0 okA (E.after E' s m) b := fun b hb ho => by
  refine ⟨fun k hk => ?_, fun k ver z u hk hu => ?_, ho.2.2⟩
  ·rcases hgm' hk with ⟨_, h1⟩ | ⟨_, h1⟩
   ·rcases hgm k b h1 with h2 | h2
    ·omega
    ·exact hokn b ho (hob b (.inl ⟨_, h2⟩))
   ·exact ho.1 k h1
  ·rcases hrm' hk with ⟨_, _, v', h1⟩ | ⟨_, h1⟩
   ·rcases hrmo h1 hu with h2 | h2
    ·omega
    ·exact hokn b ho (hob b h2)
   ·exact ho.2.1 k ver z u h1 hu
 have hok2 : ∀ b, okE w (okE w0 okA E) E' b → okE w0 okA (E.after E' s m) b := fun b ho => by
  refine ⟨fun k hk => ?_, fun k ver z u hk hu => ?_, ?_⟩
  ·rcases hgm' hk with ⟨_, h1⟩ | ⟨_, h1⟩
   ·exact ho.1 k h1
   ·rcases ho.2.2 with h2 | h2
    ·have := h.glt h1; omega
    ·exact h2.1 k h1
  ·rcases hrm' hk with ⟨_, _, v', h1⟩ | ⟨_, h1⟩
   ·exact ho.2.1 k v' z u h1 hu
   ·rcases ho.2.2 with h2 | h2
    ·have := h.rlt h1 hu; omega
    ·exact h2.2.1 k ver z u h1 hu
  ·rcases ho.2.2 with h2 | h2
   ·exact .inl (Nat.le_trans h.frame.size h2)
   ·exact h2.2.2
 have hbase := h.frame.size
 have back0 : ∀ {c : Cel} {u : Value}, CRel w' (okE w (okE w0 okA E) E') w.heap.size E' c u → CRel w' (okE w0 okA (E.after E' s m)) w0.heap.size (E.after E' s m) (s.backC m c) u := fun {c u} hc => by
  cases c with
  | g x => exact hc
  | any => exact hc
  | sl fr z es =>
   cases fr with
   | false => exact DRel.keep hc (.refl _ w') (fun b _ ho => hok2 b ho)
   | true => exact DRel.keep (ok := fun b => w.heap.size ≤ b ∧ okE w (okE w0 okA E) E' b) hc (.refl _ w') (fun b _ ho => ⟨Nat.le_trans hbase ho.1, hok2 b ho.2⟩)
  | ep cs =>
   obtain ⟨b, off, us, rfl, h2, h3, h4⟩ := hc
   exact ⟨b, off, us, rfl, hok2 b h2, h3, fun j x hx => ⟨(h4 j x hx).1, (h4 j x hx).2.keep (.refl _ w') (fun b _ hb => hok2 b hb)⟩⟩
  | fm kc es => exact DRel.keep hc (.refl _ w') (fun b _ ho => hok2 b ho)
  | bx k off =>
   obtain ⟨g, hg1, rfl⟩ := hc
   have hin : k ∈ m.obs := by
    rw [← hkb]
    apply Classical.byContradiction
    intro hno
    rw [hH.bxn k (tabO_none hno)] at hg1; cases hg1
   exact ⟨g, by simp [Env.after, hin, hg1], rfl⟩
  | ow k ver =>
   obtain ⟨h1, ver', z, x, hr, hle', hx, hzp⟩ := hc
   have hin : k ∈ m.ors := by
    rw [← hkr]
    apply Classical.byContradiction
    intro hno
    rw [hH.rwn k (tabO_none hno)] at hr; cases hr
   obtain ⟨r1, hr1⟩ := tabO_some (l := H.rs) (k := k) (by rw [hkr]; exact hin)
   obtain ⟨_, _, u', _, h3, _⟩ := hH.rw k r1 hr1
   rw [hr] at h3; simp only [Option.some.injEq, Prod.mk.injEq] at h3
   have h4 := hver k r1 hr1
   exact ⟨h1, s.nv m k, z, x, by simp [Env.after, hin, hr], Nat.le_refl _, fun _ => hx (by omega), hzp⟩
  | op k ver i off =>
   obtain ⟨h1, ver', z, x, hr, hle', hx, hzp⟩ := hc
   have hin : k ∈ m.ors := by
    rw [← hkr]
    apply Classical.byContradiction
    intro hno
    rw [hH.rwn k (tabO_none hno)] at hr; cases hr
   obtain ⟨r1, hr1⟩ := tabO_some (l := H.rs) (k := k) (by rw [hkr]; exact hin)
   obtain ⟨_, _, u', _, h3, _⟩ := hH.rw k r1 hr1
   rw [hr] at h3; simp only [Option.some.injEq, Prod.mk.injEq] at h3
   have h4 := hver k r1 hr1
   exact ⟨h1, s.nv m k, z, x, by simp [Env.after, hin, hr], Nat.le_refl _, fun _ => hx (by omega), hzp⟩
  | os k ver lo =>
   have := hc.oneC
   exact this
  | ws k ver lo hi =>
   have := hc.oneC
   exact this
  | mp k =>
   obtain ⟨h1, ver', x, hr, hx⟩ := hc
   have hin : k ∈ m.ors := by
    rw [← hkr]
    apply Classical.byContradiction
    intro hno
    rw [hH.rwn k (tabO_none hno)] at hr; cases hr
   exact ⟨h1, s.nv m k, x, by simp [Env.after, hin, hr], hx⟩
  | fn f caps =>
   simp only [AS.backC]
   split
   ·rename_i hall
    obtain ⟨us, rfl, hl, hcs⟩ := hc
    refine ⟨us, rfl, hl, fun i c u h2 h3 => ?_⟩
    have h4 := List.all_eq_true.1 hall c (List.mem_of_getElem? h2)
    have h5 := hcs i c u h2 h3
    cases c with
    | g x => exact h5
    | bx k off =>
     obtain ⟨g, hg1, rfl⟩ := h5
     have hin : k ∈ m.obs := by
      rw [← hkb]
      apply Classical.byContradiction
      intro hno
      rw [hH.bxn k (tabO_none hno)] at hg1; cases hg1
     exact ⟨g, by simp [Env.after, hin, hg1], rfl⟩
    | _ => cases h4
   ·have := hc.oneC
    exact this
  | mv f caps =>
   have := hc.oneC
   exact this
 have backs : ∀ {cs : List Cel} {us : List Value}, CsRel w' (okE w (okE w0 okA E) E') w.heap.size E' cs us → CsRel w' (okE w0 okA (E.after E' s m)) w0.heap.size (E.after E' s m) (cs.map (s.backC m)) us := fun {cs us} hc => by
  refine ⟨by simpa using hc.1, fun i c u h2 h3 => ?_⟩
  rw [List.getElem?_map] at h2
  cases hi : cs[i]? with
  | none => rw [hi] at h2; cases h2
  | some c0 => rw [hi] at h2; simp at h2; subst h2; exact back0 (hc.2 i c0 u hi h3)
 have backv : VRel w' (okE w0 okA (E.after E' s m)) w0.heap.size (E.after E' s m) (s.backV m r) v := by
  cases hv with
  | one h1 => exact .one (back0 h1)
  | ag h1 => exact .ag (backs h1)
  | any => exact .any
  | @tu vs us hl h1 =>
   refine .tu (by simpa using hl) fun i x u h2 h3 => ?_
   rw [List.getElem?_map] at h2
   cases hi : vs[i]? with
   | none => rw [hi] at h2; cases h2
   | some x0 =>
    rw [hi] at h2; simp at h2; subst h2
    have h4 := h1 i x0 u hi h3
    cases h4 with
    | one h5 => exact .one (back0 h5)
    | ag h5 => exact .ag (backs h5)
    | tu => exact .any
    | any => exact .any
 have hst : St w0 okA ext N (s.after m H) a w' (E.after E' s m) := by
  have hbx : ∀ k, (s.after m H).bx k = if k ∈ m.obs then (tabO H.bs k).map (fun cs => cs.map (s.backC m)) else s.bx k := fun k => by rw [← hkb]; exact putB_at H.bs s.bx k
  have hrw : ∀ k, (s.after m H).rw k = if k ∈ m.ors then (tabO H.rs k).map (fun r => { r with ver := s.nv m k }) else s.rw k := fun k => by rw [← hkr]; exact putR_at H.rs s.rw k
  refine ⟨h.size, h.defers, fun t => (h.tm t).move hkeep hok (Nat.le_refl _) hle, fun k cs hk => ?_, fun k hk => ?_, fun k r0 hk => ?_, fun k hk => ?_, fun k k' g h1 h2 => ?_, fun k g k' ver z u h1 h2 => ?_, fun k ver z u k' ver' z' u' b h1 h2 hb hb' => ?_, fun k g hk => ?_, fun k g hk0 hk => ?_, h.nx, fun k ver z u b hk hb => ?_, fun k z u hkx hk => ?_, ?_, fun k g hbk hk => ?_⟩
  ·rw [hbx] at hk
   split at hk
   ·rename_i hin
    cases hx : tabO H.bs k with
    | none => rw [hx] at hk; cases hk
    | some cs0 =>
     rw [hx] at hk; simp at hk; subst hk
     obtain ⟨g, cur, ty, h1, h2, h3⟩ := hH.bx k cs0 hx
     exact ⟨g, cur, ty, by simp [Env.after, hin, h1], h2, backs h3⟩
   ·rename_i hin
    obtain ⟨g, cur, ty, h1, h2, h3⟩ := h.bx k cs hk
    exact ⟨g, cur, ty, by simp [Env.after, hin, h1], (hg.block g (h.glt h1) (hgold k g h1 hin)).trans h2, h3.move hkeep hok (Nat.le_refl _) hle⟩
  ·rw [hbx] at hk
   simp only [Env.after]
   split at hk
   ·rename_i hin
    obtain ⟨cs, hcs⟩ := tabO_some (l := H.bs) (k := k) (by rw [hkb]; exact hin)
    rw [hcs] at hk; cases hk
   ·rename_i hin; rw [if_neg hin]; exact h.bxn k hk
  ·rw [hrw] at hk
   split at hk
   ·rename_i hin
    cases hx : tabO H.rs k with
    | none => rw [hx] at hk; cases hk
    | some r1 =>
     rw [hx] at hk; simp at hk; subst hk
     obtain ⟨h1, h2, u, vs, h3, h4, h5⟩ := hH.rw k r1 hx
     refine ⟨fun h0 => ?_, h2, u, vs, by simp [Env.after, hin, h3], h4, h5.move (.refl _ w') (fun b _ ho => hok2 b ho) hbase⟩
     show s.nv m k = 0
     cases hsr : s.rw k with
     | none => simp [AS.nv, hsr]
     | some r0 =>
      rcases hm4 k hin with h6 | h6
      ·have hzz := hz k _ r1 (show tabO (s.hp m).rs k = some { r0 with ver := 0, es := datE r0.es } by
        have := tabO_filterMap (β := Row) s.rw (fun _ r => { r with ver := 0, es := datE r.es }) m.rks k
        simp only [AS.hp, this, h6, if_true, hsr, Option.map_some]) hx
       have hr0 : r0.z = 0 := by
        have e1 : r1.z = r0.z := hzz
        have e2 : r1.z = 0 := h0
        omega
       have hst : k ∈ m.sts := by
        rcases hm6 k h6 with h7 | h7
        ·exact h7
        ·rw [hsr] at h7; simp at h7; exact absurd hr0 h7
       have := (h.rw k r0 hsr).1 hr0
       simp [AS.nv, hsr, hst, this]
      ·have := h6.1; rw [hsr] at this; simp at this
   ·rename_i hin
    obtain ⟨h1, h2, u, vs, h3, h4, h5⟩ := h.rw k r0 hk
    refine ⟨h1, h2, u, vs, by simp [Env.after, hin, h3], ?_, h5.move hkeep hok (Nat.le_refl _)⟩
    exact h4.of_block fun b hb => hg.block b (h.rlt h3 hb) (hrold k _ _ _ b h3 hb hin)
  ·rw [hrw] at hk
   simp only [Env.after]
   split at hk
   ·rename_i hin
    obtain ⟨r1, hr1⟩ := tabO_some (l := H.rs) (k := k) (by rw [hkr]; exact hin)
    rw [hr1] at hk; cases hk
   ·rename_i hin; rw [if_neg hin]; exact h.rwn k hk
  ·rcases hgm' h1 with ⟨_, e1⟩ | ⟨n1, e1⟩ <;> rcases hgm' h2 with ⟨_, e2⟩ | ⟨n2, e2⟩
   ·exact hH.ginj k k' g e1 e2
   ·exact absurd rfl (hapart1 k g k' g e1 e2 n2)
   ·exact absurd rfl (hapart1 k' g k g e2 e1 n1)
   ·exact h.ginj k k' g e1 e2
  ·rcases hgm' h1 with ⟨_, e1⟩ | ⟨n1, e1⟩ <;> rcases hrm' h2 with ⟨_, _, v2, e2⟩ | ⟨n2, e2⟩
   ·exact hH.gr k g k' v2 z u e1 e2
   ·exact hapart2 k g k' ver z u e1 e2 n2
   ·exact hapart3 k' v2 z u k g e2 e1 n1
   ·exact h.gr k g k' ver z u e1 e2
  ·rcases hrm' h1 with ⟨_, _, v1, e1⟩ | ⟨n1, e1⟩ <;> rcases hrm' h2 with ⟨_, _, v2, e2⟩ | ⟨n2, e2⟩
   ·exact hH.rr k v1 z u k' v2 z' u' b e1 e2 hb hb'
   ·exact absurd hb' (hapart4 k v1 z u k' ver' z' u' b e1 e2 n2 hb)
   ·exact absurd hb (hapart4 k' v2 z' u' k ver z u b e2 e1 n1 hb')
   ·exact h.rr k ver z u k' ver' z' u' b e1 e2 hb hb'
  ·rcases hgm' hk with ⟨_, e1⟩ | ⟨_, e1⟩
   ·rcases hgm k g e1 with h1 | h1
    ·exact .inl (Nat.le_trans hbase h1)
    ·exact h.gfr k g (pass_gm h1).2
   ·exact h.gfr k g e1
  ·rcases hgm' hk with ⟨hin, e1⟩ | ⟨_, e1⟩
   ·have hbk : k ∈ m.bks := by
     rcases hm3 k hin with h1 | h1
     ·exact h1
     ·exfalso; rcases hk0 with h2 | h2
      ·exact h1.1.2 h2
      ·have := h1.2; simp only [XK] at h2; omega
    have hsb := (hm1 k hbk).2
    cases hsk : s.bx k with
    | none => rw [hsk] at hsb; cases hsb
    | some cs0 =>
     obtain ⟨g0, _, _, h1, _⟩ := h.bx k cs0 hsk
     have := hsame k g0 g (by simp [Env.pass, hbk, h1]) e1
     subst this
     exact h.gx k g0 hk0 h1
   ·exact h.gx k g hk0 e1
  ·rcases hrm' hk with ⟨hin, _, v', e1⟩ | ⟨_, e1⟩
   ·rcases hrm k v' z u b e1 hb with h1 | ⟨v2, z2, u2, h1, h2⟩
    ·exact .inl (Nat.le_trans hbase h1)
    ·obtain ⟨_, _, v3, h3⟩ := pass_rm h1
     exact h.rfr k v3 z2 u2 b h3 h2
   ·exact h.rfr k ver z u b e1 hb
  ·rcases hrm' hk with ⟨hin, hnv, v', e1⟩ | ⟨_, e1⟩
   ·rcases hm4 k hin with h1 | h1
    ·have h2 := (hm2 k h1).2
     cases hs : s.rw k with
     | none => rw [hs] at h2; cases h2
     | some r0 =>
      obtain ⟨_, _, u0, _, h3, _⟩ := h.rw k r0 hs
      by_cases hst : k ∈ m.sts
      ·simp [AS.nv, hs, hst] at hnv
       have h4 := hstay k 0 v' r0.z z u0 u hst (by simp [Env.pass, h1, h3]) e1
       subst h4
       rw [← hnv] at h3
       exact h.rst k _ _ hkx h3
      ·simp [AS.nv, hs, hst] at hnv
    ·have := h1.2; omega
   ·exact h.rst k z u hkx e1
  ·refine ⟨hg.os.trans h.frame.os, hg.tape.trans h.frame.tape, hg.output.trans h.frame.output, Nat.le_trans h.frame.size hg.size, fun b hb hne => ?_⟩
   refine (hg.block b (Nat.lt_of_lt_of_le hb h.frame.size) (fun ho => ?_)).trans (h.frame.block b hb hne)
   rcases ho with ⟨j, hj⟩ | ⟨j, ver, z, u, hj, hu⟩
   ·rcases h.gfr j b (pass_gm hj).2 with h1 | h1
    ·omega
    ·exact hne h1.1
   ·obtain ⟨_, _, v', h3⟩ := pass_rm hj
    rcases h.rfr j v' z u b h3 hu with h1 | h1
    ·omega
    ·exact hne h1.2.2
  ·by_cases hin : k ∈ m.obs
   ·have hk : E'.gm k = some g := by simpa [Env.after, hin] using hk
    rcases hm3 k hin with h1 | h1
    ·cases hx : (E.pass m).gm k with
     | none =>
      obtain ⟨h2, h3⟩ := hm1 k h1
      cases hs : s.bx k with
      | none => rw [hs] at h3; cases h3
      | some cs =>
       obtain ⟨g', cur, ty, h4, _⟩ := h.bx k cs hs
       simp [Env.pass, h1, h4] at hx
     | some g' =>
      obtain rfl := hsame k g' g hx hk
      exact htb k g' hbk hx hk
    ·rw [bldK_lt h1.2] at hbk; cases hbk
   ·have h1 : E.gm k = some g := by simpa [Env.after, hin] using hk
    obtain ⟨c0, T, h2, h3⟩ := h.bt k g hbk h1
    exact ⟨c0, T, (hg.block g (h.glt h1) (hgold k g h1 hin)).trans h2, h3⟩
 exact hst.put backv hd
def CAnn.at (m : CAnn) (H : Hp) : CAnn := ⟨m.bks, m.rks, H.bs.map (·.1), H.rs.map (·.1), m.sts⟩
theorem backC_at {m : CAnn} {H : Hp} : s.backC (m.at H) = s.backC m := by funext c; cases c <;> rfl
theorem backV_at {m : CAnn} {H : Hp} : s.backV (m.at H) = s.backV m := by funext x; cases x <;> simp only [AS.backV, backC_at]
theorem after_at {m : CAnn} {H : Hp} : s.after (m.at H) H = s.after m H := by
 have p1 : ∀ l b, putB s (m.at H) l b = putB s m l b := by
  intro l; induction l with
  | nil => intro b; rfl
  | cons p l ih => intro b; obtain ⟨j, cs⟩ := p; simp only [putB, ih, backC_at]
 have p2 : ∀ l b, putR s (m.at H) l b = putR s m l b := by
  intro l; induction l with
  | nil => intro b; rfl
  | cons p l ih => intro b; obtain ⟨j, cs⟩ := p; simp only [putR, ih]; rfl
 simp only [AS.after, p1, p2]
theorem okM_at {m : CAnn} {H : Hp} (h : okM s m = true) (hk : hkB m H = true) : okM s (m.at H) = true := by
 simp only [okM, hkB, CAnn.at, Bool.and_eq_true, List.all_eq_true, Bool.or_eq_true, List.contains_iff_mem, decide_eq_true_eq, bne_iff_ne, ne_eq] at h hk ⊢
 obtain ⟨⟨⟨⟨⟨h1, h2⟩, h3⟩, h4⟩, h5⟩, h6⟩ := h
 obtain ⟨⟨⟨k1, k2⟩, k3⟩, k4⟩ := hk
 exact ⟨⟨⟨⟨⟨fun k hk => ⟨k2 k hk, (h1 k hk).2⟩, fun k hk => ⟨k4 k hk, (h2 k hk).2⟩⟩, fun k hk => h3 k (k1 k hk)⟩, fun k hk => h4 k (k3 k hk)⟩, h5⟩, h6⟩
theorem callm_sound (h : St w0 okA ext N s a w E) {fo : Operand} {args : Array Operand} {ts : Array TypeId} {fy : Opd} {ys : List Opd} {m : CAnn} (ho : o.op = .call { callee := .value fo, args, argTypes := ts }) (hf : opd fo = some fy) (hy : args.toList.mapM opd = some ys)
  (hd : ∀ k, o.dst = some k → k < N) (hK : callM P s o.dst (s.ev fy) (ys.map s.ev) m (Serves w0 okA ext N K)) : o.wp P a w K Q := by
 unfold callM at hK
 split at hK
 ·rename_i f as hcv
  obtain ⟨hm, R, hFC, _, hR⟩ := hK
  obtain ⟨us, hul, hall, hrun⟩ := callee_rel (P := P) h ho hf hy hcv
  have hrun := hrun hFC.1
  unfold Oper.wp
  rw [hrun, Oper.upon_enter]
  have hlen2 : (as.map (s.passV m)).length = us.length := by simpa using hul
  have hc := hFC.2 w (okE w0 okA E) (E.pass m) us h.tab.1 (pass_hp h m _) (fun b hb ho => by
   rcases hb with ⟨k, hk⟩ | ⟨k, ver, z, u, hk, hu⟩
   ·exact ho.1 k (pass_gm hk).2
   ·obtain ⟨_, _, v', h3⟩ := pass_rm hk; exact ho.2.1 k v' z u h3 hu) (fun k g hbk hk => by have := h.bt k g hbk (pass_gm hk).2; rwa [hT.bt] at this) hlen2 (fun i x u hx hu => by
   rw [List.getElem?_map] at hx
   cases hi : as[i]? with
   | none => rw [hi] at hx; cases hx
   | some x0 => rw [hi] at hx; simp at hx; subst hx; exact pass_relV h m (hall i x0 u hi hu))
  refine Calls.mono hc ?_
  rintro e w1 ⟨v, H, r, E', rfl, hRr, hgr, hH, hv, h1, h2, h3, h4, h5, h6, h7⟩
  have h7 : ∀ k g, bldK k = true → (E.pass m).gm k = some g → E'.gm k = some g → ∃ cur T, w1.heap[g]? = some (.cells cur T (0, 0)) ∧ ext.bT T := by rw [hT.bt]; exact h7
  obtain ⟨hk, hTT⟩ := hR H r hRr
  rcases hk with ⟨hkb, hkr⟩ | hk
  ·exact hTT _ _ _ (h.called_m hm hkb hkr hgr hH h1 h2 h3 h4 h5 h6 hv h7 hd)
  ·have := h.called_m (m := m.at H) (okM_at hm hk) rfl rfl hgr hH h1 h2 h3 h4 h5 h6 hv h7 hd
   rw [after_at, backV_at] at this
   exact hTT _ _ _ this
 ·exact hK.elim
end
end Go.Ai
namespace Go.Ai
open Go
set_option linter.unusedSimpArgs false
set_option linter.unusedVariables false
set_option linter.unusedSectionVars false
theorem ssubOf_is {x : Opd} {lo hi : Option Operand} {i : Ins} (h : ssubOf x lo hi = some i) : ∃ l u, i = .ssub x l u := by
 unfold ssubOf at h
 split at h
 ·injection h with h; exact ⟨_, _, h.symm⟩
 ·simp only [Option.map_eq_some_iff] at h; obtain ⟨_, _, h⟩ := h; exact ⟨_, _, h.symm⟩
 ·simp only [Option.map_eq_some_iff] at h; obtain ⟨_, _, h⟩ := h; exact ⟨_, _, h.symm⟩
 ·split at h
  ·injection h with h; exact ⟨_, _, h.symm⟩
  ·cases h
theorem aadrOf_is {P : Program} {t : TypeId} {x j : Opd} {i : Ins} (h : aadrOf P t x j = some i) : ∃ n z, i = .aadr n z x j := by
 unfold aadrOf at h
 split at h
 ·simp only [Option.map_eq_some_iff] at h; obtain ⟨_, _, h⟩ := h; exact ⟨_, _, h.symm⟩
 ·cases h
def istep (P : Program) (s : AS) (i : GI) (T : AS → Prop) : Prop :=
 match i.ins with
 | .pick c a b => match s.ev c with
  | .one (.g (.bool t)) => match t with
   | true => T (s.put i.dst (s.ev a))
   | false => T (s.put i.dst (s.ev b))
  | _ => False
 | .call f args => callP P s i.dst (s.ev f) (args.map s.ev) T
 | .callx f args => callXS P s i.dst (s.ev f) (args.map s.ev) T
 | .callm f args m => callM P s i.dst (s.ev f) (args.map s.ev) m T
 | ins => SGood (estep i.dst ins s) T
def AS.fix (s : AS) (g : Nat) (b : Bool) : AS := { s with tm := upd s.tm g (bv b) }
def gstep (P : Program) (s : AS) (i : GI) (T : AS → Prop) : Prop :=
 match i.gd with
 | none => istep P s i T
 | some (g, want) => match s.tm g with
  | .one (.g (.bool b)) => match b with
   | true => match want with
    | true => istep P (s.fix g true) i T
    | false => T ((s.fix g true).put i.dst (.tu []))
   | false => match want with
    | true => T ((s.fix g false).put i.dst (.tu []))
    | false => istep P (s.fix g false) i T
  | .tu [] => T (s.put i.dst (.tu []))
  | _ => False
/-- What a guard reads: a truth value; none: the guard itself was passed over. -/
def gval : Val → Option (Option Bool)
 | .one (.g (.bool b)) => some (some b)
 | .tu [] => some none
 | _ => none
def aops (P : Program) : List GI → (AS → Prop) → AS → Prop
 | [], T, s => T s
 | i :: l, T, s => gstep P s i (aops P l T)
/-- A call that is noted is handed boxes and rows. -/
def annI (ca : List (Nat × CAnn)) (d : Option Nat) (e : Option TypeId) : Ins → Ins
 | .call f as => match tabO ca (d.getD 0) with
  | some m => .callm f as m
  | none => .call f as
 | .callx f as => match tabO ca (d.getD 0) with
  | some m => .callm f as m
  | none => .callx f as
 | .slc z x (some l) none => match tabO ca (d.getD 0) with
  | some _ => .sfx z x l
  | none => .slc z x (some l) none
 | .slc z x none (some h) => match tabO ca (d.getD 0) with
  | some _ => .trn z x h
  | none => .slc z x none (some h)
 | .bslice z n ps => match tabO ca (d.getD 0), e with
  | some _, some e => .bslr e z n ps
  | _, _ => .bslice z n ps
 | i => i
/-- The element's type of a slice that is written out. -/
def bslT (P : Program) (o : Oper) : Option TypeId :=
 match o.op with
 | .buildSlice t _ _ => (elemOfSlice P t).map (·.1)
 | _ => none
/-- What is not covered fails. -/
def insOr (P : Program) (ca : List (Nat × CAnn)) (o : Oper) : Ins := ((compileIns P o).map (annI ca o.dst (bslT P o))).getD (.un .neg (.f 0))
def compileGI (P : Program) (N : Nat) (ca : List (Nat × CAnn)) (ops : Array Oper) (o : Oper) : Option GI :=
 match (match o.dst with | some d => decide (d < N) | none => true), (match o.guard with | none => some none | some (j, want) => ((ops[j]?).bind (·.dst)).map fun g => some (g, want)) with
 | true, some gd => some ⟨o.dst, gd, insOr P ca o⟩
 | _, _ => none
section
variable {P : Program} {w0 w w' : World} {okA : Nat → Prop} {ext : Ext} {N : Nat} {s : AS} {a : Act} {E : Env} {o : Oper} {K : Act → World → Prop} {Q : Exit → Act → World → Prop} [hT : Tabs P w0 okA ext]
theorem pick_sound (h : St w0 okA ext N s a w E) {gd : Option (Nat × Bool)} {c x y : Operand} {c' x' y' : Opd} (hc : opd c = some c') (hx : opd x = some x') (hy : opd y = some y') (ho : o.op = .pick c x y) (hd : ∀ k, o.dst = some k → k < N)
  (hK : istep P s ⟨o.dst, gd, .pick c' x' y'⟩ (Serves w0 okA ext N K)) : o.wp P a w K Q := by
 simp only [istep] at hK
 have hr := ev_rel h hc
 split at hK
 ·rename_i t hv
  have e1 := one_g hr hv
  cases t with
  | true =>
   refine wp_value (v := a.eval x) (w' := w) ?_ (hK _ _ E (h.put (ev_rel h hx) hd))
   simp [execOp, ho, e1, asBool]
  | false =>
   refine wp_value (v := a.eval y) (w' := w) ?_ (hK _ _ E (h.put (ev_rel h hy) hd))
   simp [execOp, ho, e1, asBool]
 ·exact hK.elim
theorem istep_sound0 (h : St w0 okA ext N s a w E) {gd : Option (Nat × Bool)} {i : Ins} (hc : compileIns P o = some i) (hd : ∀ k, o.dst = some k → k < N) (hK : istep P s ⟨o.dst, gd, i⟩ (Serves w0 okA ext N K)) : o.wp P a w K Q := by
 by_cases hn : callsOut i = false
 ·refine ins_sound h hc hn hd ?_
  cases i <;> first | exact hK | (simp [callsOut] at hn)
 ·cases i <;> simp [callsOut] at hn
  ·unfold compileIns at hc
   split at hc
   case h_3 c x y ho =>
    split at hc
    ·rename_i c' x' y' h1 h2 h3; simp only [Option.some.injEq, Ins.pick.injEq] at hc; obtain ⟨rfl, rfl, rfl⟩ := hc
     exact pick_sound h h1 h2 h3 ho hd hK
    ·cases hc
   all_goals (exfalso; revert hc; first | (simp; done) | (simp only [Option.map_eq_some_iff]; rintro ⟨_, _, h⟩; cases h) | (repeat' split) <;> (first | (simp; done) | (intro h; obtain ⟨_, _, h⟩ := ssubOf_is h; cases h) | (intro h; obtain ⟨_, _, h⟩ := aadrOf_is h; cases h) | (intro h; obtain ⟨_, h⟩ := appStrOf_is h; cases h) | (simp only [Option.map_eq_some_iff]; rintro ⟨_, _, h⟩; cases h)))
  ·unfold compileIns at hc
   split at hc
   case h_25 fo args ts ho =>
    split at hc
    ·rename_i f' as' h1 h2; simp only [Option.some.injEq] at hc
     split at hc
     ·cases hc
     ·simp only [Ins.call.injEq] at hc; obtain ⟨rfl, rfl⟩ := hc
      exact callp_sound h ho h1 h2 hd hK
    ·cases hc
   all_goals (exfalso; revert hc; first | (simp; done) | (simp only [Option.map_eq_some_iff]; rintro ⟨_, _, h⟩; cases h) | (repeat' split) <;> (first | (simp; done) | (intro h; obtain ⟨_, _, h⟩ := ssubOf_is h; cases h) | (intro h; obtain ⟨_, _, h⟩ := aadrOf_is h; cases h) | (intro h; obtain ⟨_, h⟩ := appStrOf_is h; cases h) | (simp only [Option.map_eq_some_iff]; rintro ⟨_, _, h⟩; cases h)))
  ·unfold compileIns at hc
   split at hc
   case h_25 fo args ts ho =>
    split at hc
    ·rename_i f' as' h1 h2; simp only [Option.some.injEq] at hc
     split at hc
     ·simp only [Ins.callx.injEq] at hc; obtain ⟨rfl, rfl⟩ := hc
      exact callx_sound h ho h1 h2 hd hK
     ·cases hc
    ·cases hc
   all_goals (exfalso; revert hc; first | (simp; done) | (simp only [Option.map_eq_some_iff]; rintro ⟨_, _, h⟩; cases h) | (repeat' split) <;> (first | (simp; done) | (intro h; obtain ⟨_, _, h⟩ := ssubOf_is h; cases h) | (intro h; obtain ⟨_, _, h⟩ := aadrOf_is h; cases h) | (intro h; obtain ⟨_, h⟩ := appStrOf_is h; cases h) | (simp only [Option.map_eq_some_iff]; rintro ⟨_, _, h⟩; cases h)))
  ·exfalso
   unfold compileIns at hc
   split at hc
   case h_25 fo args ts ho =>
    split at hc
    ·simp only [Option.some.injEq] at hc
     split at hc <;> cases hc
    ·cases hc
   all_goals (revert hc; first | (simp; done) | (simp only [Option.map_eq_some_iff]; rintro ⟨_, _, h⟩; cases h) | (repeat' split) <;> (first | (simp; done) | (intro h; obtain ⟨_, _, h⟩ := ssubOf_is h; cases h) | (intro h; obtain ⟨_, _, h⟩ := aadrOf_is h; cases h) | (intro h; obtain ⟨_, h⟩ := appStrOf_is h; cases h) | (simp only [Option.map_eq_some_iff]; rintro ⟨_, _, h⟩; cases h)))
theorem call_inv {i : Ins} {f : Opd} {as : List Opd} (hc : compileIns P o = some i) (hi : i = .call f as ∨ i = .callx f as) : ∃ fo args ts, o.op = .call { callee := .value fo, args, argTypes := ts } ∧ opd fo = some f ∧ args.toList.mapM opd = some as := by
 unfold compileIns at hc
 split at hc
 case h_25 fo args ts ho =>
  split at hc
  ·rename_i f' as' h1 h2
   simp only [Option.some.injEq] at hc
   refine ⟨fo, args, ts, ho, ?_⟩
   split at hc <;> subst hc <;> rcases hi with hi | hi <;> first | (injection hi with e1 e2; subst e1; subst e2; exact ⟨h1, h2⟩) | (cases hi)
  ·cases hc
 all_goals (exfalso; rcases hi with hi | hi <;> subst hi <;> revert hc <;> first | (simp; done) | (simp only [Option.map_eq_some_iff]; rintro ⟨_, _, h⟩; cases h) | (repeat' split) <;> (first | (simp; done) | (intro h; obtain ⟨_, _, h⟩ := ssubOf_is h; cases h) | (intro h; obtain ⟨_, _, h⟩ := aadrOf_is h; cases h) | (intro h; obtain ⟨_, h⟩ := appStrOf_is h; cases h) | (simp only [Option.map_eq_some_iff]; rintro ⟨_, _, h⟩; cases h)))
theorem slc_inv {z : Nat} {y : Opd} {lo hi : Option Opd} (hc : compileIns P o = some (.slc z y lo hi)) : ∃ t e inf x lo' hi', P.underlying t = some (.slice e) ∧ P.info? e = some inf ∧ z = inf.size ∧ opd x = some y ∧ o.op = .slice t x lo' hi' none ∧
  ((lo' = none ∧ lo = none) ∨ ∃ u v, lo' = some u ∧ lo = some v ∧ opd u = some v) ∧ ((hi' = none ∧ hi = none) ∨ ∃ u v, hi' = some u ∧ hi = some v ∧ opd u = some v) := by
 unfold compileIns at hc
 split at hc
 case h_15 t x lo0 hi0 ho =>
  split at hc
  ·rename_i e inf y' he hy
   obtain ⟨hu, hi'⟩ := elem_of he
   split at hc
   ·injection hc with hc; injection hc with e1 e2 e3 e4; subst e1; subst e2; subst e3; subst e4
    exact ⟨t, _, _, x, none, none, hu, hi', rfl, hy, ho, .inl ⟨rfl, rfl⟩, .inl ⟨rfl, rfl⟩⟩
   ·rename_i l; simp only [Option.map_eq_some_iff] at hc; obtain ⟨l', hl, hc⟩ := hc
    injection hc with e1 e2 e3 e4; subst e1; subst e2; subst e3; subst e4
    exact ⟨t, _, _, x, some l, none, hu, hi', rfl, hy, ho, .inr ⟨l, l', rfl, rfl, hl⟩, .inl ⟨rfl, rfl⟩⟩
   ·rename_i l; simp only [Option.map_eq_some_iff] at hc; obtain ⟨l', hl, hc⟩ := hc
    injection hc with e1 e2 e3 e4; subst e1; subst e2; subst e3; subst e4
    exact ⟨t, _, _, x, none, some l, hu, hi', rfl, hy, ho, .inl ⟨rfl, rfl⟩, .inr ⟨l, l', rfl, rfl, hl⟩⟩
   ·rename_i l m
    split at hc
    ·rename_i l' m' hl hm
     injection hc with hc; injection hc with e1 e2 e3 e4; subst e1; subst e2; subst e3; subst e4
     exact ⟨t, _, _, x, some l, some m, hu, hi', rfl, hy, ho, .inr ⟨l, l', rfl, rfl, hl⟩, .inr ⟨m, m', rfl, rfl, hm⟩⟩
    ·cases hc
  ·split at hc
   ·exfalso; obtain ⟨_, _, h⟩ := ssubOf_is hc; cases h
   ·cases hc
  ·cases hc
 all_goals (exfalso; revert hc; first | (simp; done) | (simp only [Option.map_eq_some_iff]; rintro ⟨_, _, h⟩; cases h) | (repeat' split) <;> (first | (simp; done) | (intro h; obtain ⟨_, _, h⟩ := ssubOf_is h; cases h) | (intro h; obtain ⟨_, _, h⟩ := aadrOf_is h; cases h) | (intro h; obtain ⟨_, h⟩ := appStrOf_is h; cases h) | (simp only [Option.map_eq_some_iff]; rintro ⟨_, _, h⟩; cases h)))
theorem bsl_inv {z n : Nat} {ps : List Opd} (hc : compileIns P o = some (.bslice z n ps)) : ∃ t e, ∃ (i : TypeInfo) (parts : Array (Nat × Operand)), P.underlying t = some (.slice e) ∧ P.info? e = some i ∧ parts.toList.mapM (fun p => opd p.2) = some ps ∧ i.size = z ∧
  parts.toList.map (·.1) = List.range n ∧ 0 < i.size ∧ n * i.size ≤ 16777216 ∧ 0 < n ∧ (i.zero.map (·.cells.size)) = some i.size ∧ o.op = .buildSlice t n parts ∧ bslT P o = some e := by
 unfold compileIns at hc
 split at hc
 case h_7 t len parts ho =>
  split at hc
  ·rename_i e inf ps' he hps
   split at hc
   ·rename_i hcond; injection hc with hc; injection hc with e1 e2 e3; subst e1; subst e2; subst e3
    obtain ⟨hu, hi⟩ := elem_of he
    exact ⟨t, e, inf, parts, hu, hi, hps, rfl, hcond.1, hcond.2.1, hcond.2.2.1, hcond.2.2.2.1, hcond.2.2.2.2, ho, by simp [bslT, ho, he]⟩
   ·cases hc
  ·cases hc
 all_goals (exfalso; revert hc; first | (simp; done) | (simp only [Option.map_eq_some_iff]; rintro ⟨_, _, h⟩; cases h) | (repeat' split) <;> (first | (simp; done) | (intro h; obtain ⟨_, _, h⟩ := ssubOf_is h; cases h) | (intro h; obtain ⟨_, _, h⟩ := aadrOf_is h; cases h) | (intro h; obtain ⟨_, h⟩ := appStrOf_is h; cases h) | (simp only [Option.map_eq_some_iff]; rintro ⟨_, _, h⟩; cases h)))
theorem istep_sound (h : St w0 okA ext N s a w E) {ca : List (Nat × CAnn)} {gd : Option (Nat × Bool)} {i : Ins} (hc : (compileIns P o).map (annI ca o.dst (bslT P o)) = some i) (hd : ∀ k, o.dst = some k → k < N) (hK : istep P s ⟨o.dst, gd, i⟩ (Serves w0 okA ext N K)) : o.wp P a w K Q := by
 simp only [Option.map_eq_some_iff] at hc
 obtain ⟨i0, h0, rfl⟩ := hc
 have same : annI ca o.dst (bslT P o) i0 = i0 → o.wp P a w K Q := fun e => istep_sound0 h h0 hd (gd := gd) (by rw [e] at hK; exact hK)
 have called : ∀ f as m, (i0 = .call f as ∨ i0 = .callx f as) → annI ca o.dst (bslT P o) i0 = .callm f as m → o.wp P a w K Q := fun f as m hi e => by
  obtain ⟨fo, args, ts, ho, h1, h2⟩ := call_inv h0 hi
  rw [e] at hK
  exact callm_sound h ho h1 h2 hd hK
 cases i0 with
 | call f as =>
  cases ht : tabO ca (o.dst.getD 0) with
  | none => exact same (by simp only [annI, ht])
  | some m => exact called f as m (.inl rfl) (by simp only [annI, ht])
 | callx f as =>
  cases ht : tabO ca (o.dst.getD 0) with
  | none => exact same (by simp only [annI, ht])
  | some m => exact called f as m (.inr rfl) (by simp only [annI, ht])
 | bslice z n ps =>
  cases ht : tabO ca (o.dst.getD 0) with
  | none => exact same (by simp only [annI, ht])
  | some _ =>
   obtain ⟨t, e, inf, parts, hu, hi, hps, rfl, h1, h2, h3, h4, h5, ho, he⟩ := bsl_inv h0
   have e1 : annI ca o.dst (bslT P o) (.bslice inf.size n ps) = .bslr e inf.size n ps := by simp only [annI, ht, he]
   rw [e1] at hK
   exact s_bslr h hu hi hps h1 h2 h3 h4 h5 ho hd hK
 | slc z y lo hi =>
  obtain ⟨t, e, inf, x, lo', hi', hu, hinf, rfl, hx, ho, hlo, hhi⟩ := slc_inv h0
  cases lo with
  | none =>
   cases hi with
   | none => exact same rfl
   | some m =>
    cases ht : tabO ca (o.dst.getD 0) with
    | none => exact same (by simp only [annI, ht])
    | some _ =>
     have e1 : annI ca o.dst (bslT P o) (.slc inf.size y none (some m)) = .trn inf.size y m := by simp only [annI, ht]
     rw [e1] at hK
     rcases hlo with ⟨rfl, _⟩ | ⟨u, v, _, h1, _⟩
     ·rcases hhi with ⟨_, h1⟩ | ⟨u, v, rfl, h1, h2⟩
      ·cases h1
      ·injection h1 with h1; subst h1
       exact s_trn h hx h2 hu hinf ho hd hK
     ·cases h1
  | some l =>
   cases hi with
   | some m => exact same rfl
   | none =>
    cases ht : tabO ca (o.dst.getD 0) with
    | none => exact same (by simp only [annI, ht])
    | some _ =>
     have e1 : annI ca o.dst (bslT P o) (.slc inf.size y (some l) none) = .sfx inf.size y l := by simp only [annI, ht]
     rw [e1] at hK
     rcases hhi with ⟨rfl, _⟩ | ⟨u, v, _, h1, _⟩
     ·rcases hlo with ⟨_, h1⟩ | ⟨u, v, rfl, h1, h2⟩
      ·cases h1
      ·injection h1 with h1; subst h1
       exact s_sfx h hx h2 hu hinf ho hd hK
     ·cases h1
 | _ => exact same rfl
theorem istep_sound' (h : St w0 okA ext N s a w E) {ca : List (Nat × CAnn)} {gd : Option (Nat × Bool)} (hd : ∀ k, o.dst = some k → k < N) (hK : istep P s ⟨o.dst, gd, insOr P ca o⟩ (Serves w0 okA ext N K)) : o.wp P a w K Q := by
 unfold insOr at hK
 cases hc : (compileIns P o).map (annI ca o.dst (bslT P o)) with
 | none =>
  rw [hc] at hK
  simp only [Option.getD_none, istep, estep, AS.ev] at hK
  exact hK.elim
 | some i => rw [hc] at hK; exact istep_sound h hc hd hK
theorem fix_st (h : St w0 okA ext N s a w E) {g : Nat} {b : Bool} (hg : s.tm g = .one (.g (.bool b))) : St w0 okA ext N (s.fix g b) a w E := by
 refine { h with tm := fun t => ?_, bx := h.bx, rw := h.rw }
 simp only [AS.fix]
 by_cases e : t = g
 ·subst e; rw [upd_same]; have := h.tm t; rw [hg] at this; exact this
 ·rw [upd_ne _ _ e]; exact h.tm t
theorem und {w : World} {ok : Nat → Prop} {base : Nat} {E : Env} : VRel w ok base E (.tu []) undef := .tu (us := []) rfl (fun i x u h => by simp at h)
theorem gstep_sound (h : St w0 okA ext N s a w E) {ops : Array Oper} {ca : List (Nat × CAnn)} {gi : GI} (hc : compileGI P N ca ops o = some gi) (hK : gstep P s gi (Serves w0 okA ext N K)) :
  if Region.wanted o (yielded ops a.tmps) = true then o.wp P a w K Q else K (a.put o.dst undef) w := by
 unfold compileGI at hc
 split at hc
 ·rename_i gd hdst hgd
  simp only [Option.some.injEq] at hc; subst hc
  have hd : ∀ k, o.dst = some k → k < N := fun k hk => by rw [hk] at hdst; simpa using hdst
  unfold gstep at hK
  split at hgd
  ·rename_i hgn
   simp only [Option.some.injEq] at hgd; subst hgd
   have hw : Region.wanted o (yielded ops a.tmps) = true := by simp [Region.wanted, hgn]
   rw [if_pos hw]
   exact istep_sound' h hd hK
  ·rename_i j want hgn
   simp only [Option.map_eq_some_iff] at hgd
   obtain ⟨g, hg, rfl⟩ := hgd
   simp only [] at hK
   split at hK
   ·rename_i b hb
    have hv := one_g (h.tm g) hb
    have hlt : a.tmps[g]? = some (.bool b) := by
     rw [Array.getD_eq_getD_getElem?] at hv
     cases hx : a.tmps[g]? with
     | none => rw [hx] at hv; cases hv
     | some v => rw [hx] at hv; simp at hv; rw [hv]
    have hy : yielded ops a.tmps j = some b := by simp [yielded, hg, hlt]
    have hw : Region.wanted o (yielded ops a.tmps) = (b == want) := by simp [Region.wanted, hgn, hy]
    rw [hw]
    have h2 := fix_st h hb
    cases b <;> cases want <;> simp only [] at hK <;> simp only [beq_self_eq_true, if_true, Bool.false_eq_true, if_false, show (false == true) = false from rfl, show (true == false) = false from rfl]
    ·exact istep_sound' h2 hd hK
    ·exact hK _ _ E (h2.put und hd)
    ·exact hK _ _ E (h2.put und hd)
    ·exact istep_sound' h2 hd hK
   ·rename_i hb
    have hv : a.tmps.getD g undef = undef := by
     have h1 := h.tm g
     rw [hb] at h1
     generalize a.tmps.getD g undef = v at h1
     cases h1 with
     | tu h2 h3 =>
      rename_i us
      cases us with
      | nil => rfl
      | cons _ _ => simp at h2
    have hy : yielded ops a.tmps j = none := by
     rw [Array.getD_eq_getD_getElem?] at hv
     unfold yielded
     rw [hg]
     simp only [Option.bind_some]
     cases hx : a.tmps[g]? with
     | none => rfl
     | some v => rw [hx] at hv; simp only [Option.getD_some] at hv; subst hv; rfl
    have hw : Region.wanted o (yielded ops a.tmps) = false := by simp [Region.wanted, hgn, hy]
    rw [hw]
    exact hK _ _ E (h.put und hd)
   ·exact hK.elim
 ·cases hc
theorem istep_mono {i : GI} {T T' : AS → Prop} (hT : ∀ s, T s → T' s) (h : istep P s i T) : istep P s i T' := by
 unfold istep at *
 split at h
 ·split at h
  ·split at h <;> exact hT _ h
  ·exact h
 ·unfold callP at *
  split at h
  ·obtain ⟨R, h3, hne, h4⟩ := h; exact ⟨R, h3, hne, fun cs r hr => ⟨(h4 cs r hr).1, hT _ (h4 cs r hr).2⟩⟩
  ·exact h
 ·unfold callXS callX at *
  split at h
  ·split at h
   ·obtain ⟨h0, h1, h2, R, h3, hne, h4⟩ := h; exact ⟨h0, h1, h2, R, h3, hne, fun cs r hr => ⟨(h4 cs r hr).1, (h4 cs r hr).2.1, hT _ (h4 cs r hr).2.2⟩⟩
   ·exact h
  ·exact h
 ·unfold callM at *
  split at h
  ·obtain ⟨h1, R, h2, h3, h4⟩ := h; exact ⟨h1, R, h2, h3, fun H r hr => ⟨(h4 H r hr).1, hT _ (h4 H r hr).2⟩⟩
  ·exact h
 ·generalize estep i.dst _ s = r at *
  cases r with
  | ok s => exact hT _ h
  | need p s => exact ⟨h.1, hT _ h.2⟩
  | bad => exact h
theorem gstep_mono {i : GI} {T T' : AS → Prop} (hT : ∀ s, T s → T' s) (h : gstep P s i T) : gstep P s i T' := by
 unfold gstep at *
 split at h
 ·exact istep_mono hT h
 ·split at h
  ·split at h <;> split at h <;> first | exact istep_mono hT h | exact hT _ h
  ·exact hT _ h
  ·exact h
theorem aops_sound {ops : Array Oper} {ca : List (Nat × CAnn)} : ∀ (l : List Oper) (gs : List GI), l.mapM (compileGI P N ca ops) = some gs → ∀ (s : AS) (a : Act) (w : World) (E : Env), St w0 okA ext N s a w E →
  aops P gs (fun s' => ∀ a' w' E', St w0 okA ext N s' a' w' E' → Q .normal a' w') s → wpList P ops Q l a w
 | [], gs, hc, s, a, w, E, h, hK => by
  simp at hc; subst hc; exact hK a w E h
 | o :: l, gs, hc, s, a, w, E, h, hK => by
  simp only [List.mapM_cons, Option.bind_eq_bind, Option.bind_eq_some_iff, Option.pure_def, Option.some.injEq] at hc
  obtain ⟨g, hg, gs', hgs, rfl⟩ := hc
  have h1 := gstep_sound (K := wpList P ops Q l) (Q := Q) h hg (gstep_mono (fun s' hs' a' w' E' hst => aops_sound l gs' hgs s' a' w' E' hst hs') hK)
  simp only [wpList]
  split
  ·rename_i hw; rw [if_pos hw] at h1; exact .inl h1
  ·rename_i hw; rw [if_neg hw] at h1; exact h1
end
end Go.Ai

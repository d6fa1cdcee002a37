/-
  The abstract layer: one operation with its guard, a region's list of operations.
-/
import Derived.Test.YtggbcgldnjmobaaDoorAiMem
import Derived.Calls
namespace Go.Ai
open Go
set_option linter.unusedSimpArgs false
set_option linter.unusedVariables false
theorem ssubOf_is {x : Opd} {lo hi : Option Operand} {i : Ins} (h : ssubOf x lo hi = some i) : ∃ l u, i = .ssub x l u := by
  unfold ssubOf at h
  split at h
  · injection h with h; exact ⟨_, _, h.symm⟩
  · simp only [Option.map_eq_some_iff] at h; obtain ⟨_, _, h⟩ := h; exact ⟨_, _, h.symm⟩
  · simp only [Option.map_eq_some_iff] at h; obtain ⟨_, _, h⟩ := h; exact ⟨_, _, h.symm⟩
  · split at h
    · injection h with h; exact ⟨_, _, h.symm⟩
    · cases h
theorem aadrOf_is {P : Program} {t : TypeId} {x j : Opd} {i : Ins} (h : aadrOf P t x j = some i) : ∃ n z, i = .aadr n z x j := by
  unfold aadrOf at h
  split at h
  · simp only [Option.map_eq_some_iff] at h; obtain ⟨_, _, h⟩ := h; exact ⟨_, _, h.symm⟩
  · cases h

def istep (P : Program) (s : AS) (i : GI) (T : AS → Prop) : Prop :=
  match i.ins with
  | .pick c a b => match s.ev c with
    | .one (.g (.bool t)) => match t with
      | true => T (s.put i.dst (s.ev a))
      | false => T (s.put i.dst (s.ev b))
    | _ => False
  | .call f args => callP P s i.dst (s.ev f) (args.map s.ev) T
  | .callx f args => callXS P s i.dst (s.ev f) (args.map s.ev) T
  | .callm f args m => callM P s i.dst (s.ev f) (args.map s.ev) m T
  | ins => SGood (estep i.dst ins s) T
def AS.fix (s : AS) (g : Nat) (b : Bool) : AS := { s with tm := upd s.tm g (bv b) }
def gstep (P : Program) (s : AS) (i : GI) (T : AS → Prop) : Prop :=
  match i.gd with
  | none => istep P s i T
  | some (g, want) => match s.tm g with
    | .one (.g (.bool b)) => match b with
      | true => match want with
        | true => istep P (s.fix g true) i T
        | false => T ((s.fix g true).put i.dst (.tu []))
      | false => match want with
        | true => T ((s.fix g false).put i.dst (.tu []))
        | false => istep P (s.fix g false) i T
    | .tu [] => T (s.put i.dst (.tu []))
    | _ => False
/-- What a guard reads: a truth value; none: the guard itself was passed over. -/
def gval : Val → Option (Option Bool)
  | .one (.g (.bool b)) => some (some b)
  | .tu [] => some none
  | _ => none
def aops (P : Program) : List GI → (AS → Prop) → AS → Prop
  | [], T, s => T s
  | i :: l, T, s => gstep P s i (aops P l T)

/-- A call that is noted is handed boxes and rows. -/
def annI (ca : List (Nat × CAnn)) (d : Option Nat) (e : Option TypeId) : Ins → Ins
  | .call f as => match tabO ca (d.getD 0) with
    | some m => .callm f as m
    | none => .call f as
  | .callx f as => match tabO ca (d.getD 0) with
    | some m => .callm f as m
    | none => .callx f as
  | .slc z x (some l) none => match tabO ca (d.getD 0) with
    | some _ => .sfx z x l
    | none => .slc z x (some l) none
  | .slc z x none (some h) => match tabO ca (d.getD 0) with
    | some _ => .trn z x h
    | none => .slc z x none (some h)
  | .bslice z n ps => match tabO ca (d.getD 0), e with
    | some _, some e => .bslr e z n ps
    | _, _ => .bslice z n ps
  | i => i
/-- The element's type of a slice that is written out. -/
def bslT (P : Program) (o : Oper) : Option TypeId :=
  match o.op with
  | .buildSlice t _ _ => (elemOfSlice P t).map (·.1)
  | _ => none
/-- What is not covered fails. -/
def insOr (P : Program) (ca : List (Nat × CAnn)) (o : Oper) : Ins := ((compileIns P o).map (annI ca o.dst (bslT P o))).getD (.un .neg (.f 0))
def compileGI (P : Program) (N : Nat) (ca : List (Nat × CAnn)) (ops : Array Oper) (o : Oper) : Option GI :=
  match (match o.dst with | some d => decide (d < N) | none => true), (match o.guard with | none => some none | some (j, want) => ((ops[j]?).bind (·.dst)).map fun g => some (g, want)) with
  | true, some gd => some ⟨o.dst, gd, insOr P ca o⟩
  | _, _ => none

section
variable {P : Program} {w0 w w' : World} {okA : Nat → Prop} {ext : Ext} {N : Nat} {s : AS} {a : Act} {E : Env} {o : Oper} {K : Act → World → Prop} {Q : Exit → Act → World → Prop}

theorem pick_sound (h : St w0 okA ext N s a w E) {gd : Option (Nat × Bool)} {c x y : Operand} {c' x' y' : Opd} (hc : opd c = some c') (hx : opd x = some x') (hy : opd y = some y') (ho : o.op = .pick c x y) (hd : ∀ k, o.dst = some k → k < N)
    (hK : istep P s ⟨o.dst, gd, .pick c' x' y'⟩ (Serves w0 okA ext N K)) : o.wp P a w K Q := by
  simp only [istep] at hK
  have hr := ev_rel h hc
  split at hK
  · rename_i t hv
    have e1 := one_g hr hv
    cases t with
    | true =>
      refine wp_value (v := a.eval x) (w' := w) ?_ (hK _ _ E (h.put (ev_rel h hx) hd))
      simp [execOp, ho, e1, asBool]
    | false =>
      refine wp_value (v := a.eval y) (w' := w) ?_ (hK _ _ E (h.put (ev_rel h hy) hd))
      simp [execOp, ho, e1, asBool]
  · exact hK.elim

theorem istep_sound0 (h : St w0 okA ext N s a w E) {gd : Option (Nat × Bool)} {i : Ins} (hc : compileIns P o = some i) (hd : ∀ k, o.dst = some k → k < N) (hK : istep P s ⟨o.dst, gd, i⟩ (Serves w0 okA ext N K)) : o.wp P a w K Q := by
  by_cases hn : callsOut i = false
  · refine ins_sound h hc hn hd ?_
    cases i <;> first | exact hK | (simp [callsOut] at hn)
  · cases i <;> simp [callsOut] at hn
    · unfold compileIns at hc
      split at hc
      case h_3 c x y ho =>
        split at hc
        · rename_i c' x' y' h1 h2 h3; simp only [Option.some.injEq, Ins.pick.injEq] at hc; obtain ⟨rfl, rfl, rfl⟩ := hc
          exact pick_sound h h1 h2 h3 ho hd hK
        · cases hc
      all_goals (exfalso; revert hc; first | (simp; done) | (simp only [Option.map_eq_some_iff]; rintro ⟨_, _, h⟩; cases h) | (repeat' split) <;> (first | (simp; done) | (intro h; obtain ⟨_, _, h⟩ := ssubOf_is h; cases h) | (intro h; obtain ⟨_, _, h⟩ := aadrOf_is h; cases h) | (simp only [Option.map_eq_some_iff]; rintro ⟨_, _, h⟩; cases h)))
    · unfold compileIns at hc
      split at hc
      case h_25 fo args ts ho =>
        split at hc
        · rename_i f' as' h1 h2; simp only [Option.some.injEq] at hc
          split at hc
          · cases hc
          · simp only [Ins.call.injEq] at hc; obtain ⟨rfl, rfl⟩ := hc
            exact callp_sound h ho h1 h2 hd hK
        · cases hc
      all_goals (exfalso; revert hc; first | (simp; done) | (simp only [Option.map_eq_some_iff]; rintro ⟨_, _, h⟩; cases h) | (repeat' split) <;> (first | (simp; done) | (intro h; obtain ⟨_, _, h⟩ := ssubOf_is h; cases h) | (intro h; obtain ⟨_, _, h⟩ := aadrOf_is h; cases h) | (simp only [Option.map_eq_some_iff]; rintro ⟨_, _, h⟩; cases h)))
    · unfold compileIns at hc
      split at hc
      case h_25 fo args ts ho =>
        split at hc
        · rename_i f' as' h1 h2; simp only [Option.some.injEq] at hc
          split at hc
          · simp only [Ins.callx.injEq] at hc; obtain ⟨rfl, rfl⟩ := hc
            exact callx_sound h ho h1 h2 hd hK
          · cases hc
        · cases hc
      all_goals (exfalso; revert hc; first | (simp; done) | (simp only [Option.map_eq_some_iff]; rintro ⟨_, _, h⟩; cases h) | (repeat' split) <;> (first | (simp; done) | (intro h; obtain ⟨_, _, h⟩ := ssubOf_is h; cases h) | (intro h; obtain ⟨_, _, h⟩ := aadrOf_is h; cases h) | (simp only [Option.map_eq_some_iff]; rintro ⟨_, _, h⟩; cases h)))
    · exfalso
      unfold compileIns at hc
      split at hc
      case h_25 fo args ts ho =>
        split at hc
        · simp only [Option.some.injEq] at hc
          split at hc <;> cases hc
        · cases hc
      all_goals (revert hc; first | (simp; done) | (simp only [Option.map_eq_some_iff]; rintro ⟨_, _, h⟩; cases h) | (repeat' split) <;> (first | (simp; done) | (intro h; obtain ⟨_, _, h⟩ := ssubOf_is h; cases h) | (intro h; obtain ⟨_, _, h⟩ := aadrOf_is h; cases h) | (simp only [Option.map_eq_some_iff]; rintro ⟨_, _, h⟩; cases h)))

theorem call_inv {i : Ins} {f : Opd} {as : List Opd} (hc : compileIns P o = some i) (hi : i = .call f as ∨ i = .callx f as) : ∃ fo args ts, o.op = .call { callee := .value fo, args, argTypes := ts } ∧ opd fo = some f ∧ args.toList.mapM opd = some as := by
  unfold compileIns at hc
  split at hc
  case h_25 fo args ts ho =>
    split at hc
    · rename_i f' as' h1 h2
      simp only [Option.some.injEq] at hc
      refine ⟨fo, args, ts, ho, ?_⟩
      split at hc <;> subst hc <;> rcases hi with hi | hi <;> first | (injection hi with e1 e2; subst e1; subst e2; exact ⟨h1, h2⟩) | (cases hi)
    · cases hc
  all_goals (exfalso; rcases hi with hi | hi <;> subst hi <;> revert hc <;> first | (simp; done) | (simp only [Option.map_eq_some_iff]; rintro ⟨_, _, h⟩; cases h) | (repeat' split) <;> (first | (simp; done) | (intro h; obtain ⟨_, _, h⟩ := ssubOf_is h; cases h) | (intro h; obtain ⟨_, _, h⟩ := aadrOf_is h; cases h) | (simp only [Option.map_eq_some_iff]; rintro ⟨_, _, h⟩; cases h)))

theorem slc_inv {z : Nat} {y : Opd} {lo hi : Option Opd} (hc : compileIns P o = some (.slc z y lo hi)) : ∃ t e inf x lo' hi', P.underlying t = some (.slice e) ∧ P.info? e = some inf ∧ z = inf.size ∧ opd x = some y ∧ o.op = .slice t x lo' hi' none ∧
    ((lo' = none ∧ lo = none) ∨ ∃ u v, lo' = some u ∧ lo = some v ∧ opd u = some v) ∧ ((hi' = none ∧ hi = none) ∨ ∃ u v, hi' = some u ∧ hi = some v ∧ opd u = some v) := by
  unfold compileIns at hc
  split at hc
  case h_15 t x lo0 hi0 ho =>
    split at hc
    · rename_i e inf y' he hy
      obtain ⟨hu, hi'⟩ := elem_of he
      split at hc
      · injection hc with hc; injection hc with e1 e2 e3 e4; subst e1; subst e2; subst e3; subst e4
        exact ⟨t, _, _, x, none, none, hu, hi', rfl, hy, ho, .inl ⟨rfl, rfl⟩, .inl ⟨rfl, rfl⟩⟩
      · rename_i l; simp only [Option.map_eq_some_iff] at hc; obtain ⟨l', hl, hc⟩ := hc
        injection hc with e1 e2 e3 e4; subst e1; subst e2; subst e3; subst e4
        exact ⟨t, _, _, x, some l, none, hu, hi', rfl, hy, ho, .inr ⟨l, l', rfl, rfl, hl⟩, .inl ⟨rfl, rfl⟩⟩
      · rename_i l; simp only [Option.map_eq_some_iff] at hc; obtain ⟨l', hl, hc⟩ := hc
        injection hc with e1 e2 e3 e4; subst e1; subst e2; subst e3; subst e4
        exact ⟨t, _, _, x, none, some l, hu, hi', rfl, hy, ho, .inl ⟨rfl, rfl⟩, .inr ⟨l, l', rfl, rfl, hl⟩⟩
      · rename_i l m
        split at hc
        · rename_i l' m' hl hm
          injection hc with hc; injection hc with e1 e2 e3 e4; subst e1; subst e2; subst e3; subst e4
          exact ⟨t, _, _, x, some l, some m, hu, hi', rfl, hy, ho, .inr ⟨l, l', rfl, rfl, hl⟩, .inr ⟨m, m', rfl, rfl, hm⟩⟩
        · cases hc
    · split at hc
      · exfalso; obtain ⟨_, _, h⟩ := ssubOf_is hc; cases h
      · cases hc
    · cases hc
  all_goals (exfalso; revert hc; first | (simp; done) | (simp only [Option.map_eq_some_iff]; rintro ⟨_, _, h⟩; cases h) | (repeat' split) <;> (first | (simp; done) | (intro h; obtain ⟨_, _, h⟩ := ssubOf_is h; cases h) | (intro h; obtain ⟨_, _, h⟩ := aadrOf_is h; cases h) | (simp only [Option.map_eq_some_iff]; rintro ⟨_, _, h⟩; cases h)))

theorem bsl_inv {z n : Nat} {ps : List Opd} (hc : compileIns P o = some (.bslice z n ps)) : ∃ t e, ∃ (i : TypeInfo) (parts : Array (Nat × Operand)), P.underlying t = some (.slice e) ∧ P.info? e = some i ∧ parts.toList.mapM (fun p => opd p.2) = some ps ∧ i.size = z ∧
    parts.toList.map (·.1) = List.range n ∧ 0 < i.size ∧ n * i.size ≤ 16777216 ∧ 0 < n ∧ (i.zero.map (·.cells.size)) = some i.size ∧ o.op = .buildSlice t n parts ∧ bslT P o = some e := by
  unfold compileIns at hc
  split at hc
  case h_7 t len parts ho =>
    split at hc
    · rename_i e inf ps' he hps
      split at hc
      · rename_i hcond; injection hc with hc; injection hc with e1 e2 e3; subst e1; subst e2; subst e3
        obtain ⟨hu, hi⟩ := elem_of he
        exact ⟨t, e, inf, parts, hu, hi, hps, rfl, hcond.1, hcond.2.1, hcond.2.2.1, hcond.2.2.2.1, hcond.2.2.2.2, ho, by simp [bslT, ho, he]⟩
      · cases hc
    · cases hc
  all_goals (exfalso; revert hc; first | (simp; done) | (simp only [Option.map_eq_some_iff]; rintro ⟨_, _, h⟩; cases h) | (repeat' split) <;> (first | (simp; done) | (intro h; obtain ⟨_, _, h⟩ := ssubOf_is h; cases h) | (intro h; obtain ⟨_, _, h⟩ := aadrOf_is h; cases h) | (simp only [Option.map_eq_some_iff]; rintro ⟨_, _, h⟩; cases h)))

theorem istep_sound (h : St w0 okA ext N s a w E) {ca : List (Nat × CAnn)} {gd : Option (Nat × Bool)} {i : Ins} (hc : (compileIns P o).map (annI ca o.dst (bslT P o)) = some i) (hd : ∀ k, o.dst = some k → k < N) (hK : istep P s ⟨o.dst, gd, i⟩ (Serves w0 okA ext N K)) : o.wp P a w K Q := by
  simp only [Option.map_eq_some_iff] at hc
  obtain ⟨i0, h0, rfl⟩ := hc
  have same : annI ca o.dst (bslT P o) i0 = i0 → o.wp P a w K Q := fun e => istep_sound0 h h0 hd (gd := gd) (by rw [e] at hK; exact hK)
  have called : ∀ f as m, (i0 = .call f as ∨ i0 = .callx f as) → annI ca o.dst (bslT P o) i0 = .callm f as m → o.wp P a w K Q := fun f as m hi e => by
    obtain ⟨fo, args, ts, ho, h1, h2⟩ := call_inv h0 hi
    rw [e] at hK
    exact callm_sound h ho h1 h2 hd hK
  cases i0 with
  | call f as =>
    cases ht : tabO ca (o.dst.getD 0) with
    | none => exact same (by simp only [annI, ht])
    | some m => exact called f as m (.inl rfl) (by simp only [annI, ht])
  | callx f as =>
    cases ht : tabO ca (o.dst.getD 0) with
    | none => exact same (by simp only [annI, ht])
    | some m => exact called f as m (.inr rfl) (by simp only [annI, ht])
  | bslice z n ps =>
    cases ht : tabO ca (o.dst.getD 0) with
    | none => exact same (by simp only [annI, ht])
    | some _ =>
      obtain ⟨t, e, inf, parts, hu, hi, hps, rfl, h1, h2, h3, h4, h5, ho, he⟩ := bsl_inv h0
      have e1 : annI ca o.dst (bslT P o) (.bslice inf.size n ps) = .bslr e inf.size n ps := by simp only [annI, ht, he]
      rw [e1] at hK
      exact s_bslr h hu hi hps h1 h2 h3 h4 h5 ho hd hK
  | slc z y lo hi =>
    obtain ⟨t, e, inf, x, lo', hi', hu, hinf, rfl, hx, ho, hlo, hhi⟩ := slc_inv h0
    cases lo with
    | none =>
      cases hi with
      | none => exact same rfl
      | some m =>
        cases ht : tabO ca (o.dst.getD 0) with
        | none => exact same (by simp only [annI, ht])
        | some _ =>
          have e1 : annI ca o.dst (bslT P o) (.slc inf.size y none (some m)) = .trn inf.size y m := by simp only [annI, ht]
          rw [e1] at hK
          rcases hlo with ⟨rfl, _⟩ | ⟨u, v, _, h1, _⟩
          · rcases hhi with ⟨_, h1⟩ | ⟨u, v, rfl, h1, h2⟩
            · cases h1
            · injection h1 with h1; subst h1
              exact s_trn h hx h2 hu hinf ho hd hK
          · cases h1
    | some l =>
      cases hi with
      | some m => exact same rfl
      | none =>
        cases ht : tabO ca (o.dst.getD 0) with
        | none => exact same (by simp only [annI, ht])
        | some _ =>
          have e1 : annI ca o.dst (bslT P o) (.slc inf.size y (some l) none) = .sfx inf.size y l := by simp only [annI, ht]
          rw [e1] at hK
          rcases hhi with ⟨rfl, _⟩ | ⟨u, v, _, h1, _⟩
          · rcases hlo with ⟨_, h1⟩ | ⟨u, v, rfl, h1, h2⟩
            · cases h1
            · injection h1 with h1; subst h1
              exact s_sfx h hx h2 hu hinf ho hd hK
          · cases h1
  | _ => exact same rfl

theorem istep_sound' (h : St w0 okA ext N s a w E) {ca : List (Nat × CAnn)} {gd : Option (Nat × Bool)} (hd : ∀ k, o.dst = some k → k < N) (hK : istep P s ⟨o.dst, gd, insOr P ca o⟩ (Serves w0 okA ext N K)) : o.wp P a w K Q := by
  unfold insOr at hK
  cases hc : (compileIns P o).map (annI ca o.dst (bslT P o)) with
  | none =>
    rw [hc] at hK
    simp only [Option.getD_none, istep, estep, AS.ev] at hK
    exact hK.elim
  | some i => rw [hc] at hK; exact istep_sound h hc hd hK

theorem fix_st (h : St w0 okA ext N s a w E) {g : Nat} {b : Bool} (hg : s.tm g = .one (.g (.bool b))) : St w0 okA ext N (s.fix g b) a w E := by
  refine { h with tm := fun t => ?_, bx := h.bx, rw := h.rw }
  simp only [AS.fix]
  by_cases e : t = g
  · subst e; rw [upd_same]; have := h.tm t; rw [hg] at this; exact this
  · rw [upd_ne _ _ e]; exact h.tm t

theorem und {w : World} {ok : Nat → Prop} {base : Nat} {E : Env} : VRel w ok base E (.tu []) undef := .tu (us := []) rfl (fun i x u h => by simp at h)
theorem gstep_sound (h : St w0 okA ext N s a w E) {ops : Array Oper} {ca : List (Nat × CAnn)} {gi : GI} (hc : compileGI P N ca ops o = some gi) (hK : gstep P s gi (Serves w0 okA ext N K)) :
    if Region.wanted o (yielded ops a.tmps) = true then o.wp P a w K Q else K (a.put o.dst undef) w := by
  unfold compileGI at hc
  split at hc
  · rename_i gd hdst hgd
    simp only [Option.some.injEq] at hc; subst hc
    have hd : ∀ k, o.dst = some k → k < N := fun k hk => by rw [hk] at hdst; simpa using hdst
    unfold gstep at hK
    split at hgd
    · rename_i hgn
      simp only [Option.some.injEq] at hgd; subst hgd
      have hw : Region.wanted o (yielded ops a.tmps) = true := by simp [Region.wanted, hgn]
      rw [if_pos hw]
      exact istep_sound' h hd hK
    · rename_i j want hgn
      simp only [Option.map_eq_some_iff] at hgd
      obtain ⟨g, hg, rfl⟩ := hgd
      simp only [] at hK
      split at hK
      · rename_i b hb
        have hv := one_g (h.tm g) hb
        have hlt : a.tmps[g]? = some (.bool b) := by
          rw [Array.getD_eq_getD_getElem?] at hv
          cases hx : a.tmps[g]? with
          | none => rw [hx] at hv; cases hv
          | some v => rw [hx] at hv; simp at hv; rw [hv]
        have hy : yielded ops a.tmps j = some b := by simp [yielded, hg, hlt]
        have hw : Region.wanted o (yielded ops a.tmps) = (b == want) := by simp [Region.wanted, hgn, hy]
        rw [hw]
        have h2 := fix_st h hb
        cases b <;> cases want <;> simp only [] at hK <;> simp only [beq_self_eq_true, if_true, Bool.false_eq_true, if_false, show (false == true) = false from rfl, show (true == false) = false from rfl]
        · exact istep_sound' h2 hd hK
        · exact hK _ _ E (h2.put und hd)
        · exact hK _ _ E (h2.put und hd)
        · exact istep_sound' h2 hd hK
      · rename_i hb
        have hv : a.tmps.getD g undef = undef := by
          have h1 := h.tm g
          rw [hb] at h1
          generalize a.tmps.getD g undef = v at h1
          cases h1 with
          | tu h2 h3 =>
            rename_i us
            cases us with
            | nil => rfl
            | cons _ _ => simp at h2
        have hy : yielded ops a.tmps j = none := by
          rw [Array.getD_eq_getD_getElem?] at hv
          unfold yielded
          rw [hg]
          simp only [Option.bind_some]
          cases hx : a.tmps[g]? with
          | none => rfl
          | some v => rw [hx] at hv; simp only [Option.getD_some] at hv; subst hv; rfl
        have hw : Region.wanted o (yielded ops a.tmps) = false := by simp [Region.wanted, hgn, hy]
        rw [hw]
        exact hK _ _ E (h.put und hd)
      · exact hK.elim
  · cases hc

theorem istep_mono {i : GI} {T T' : AS → Prop} (hT : ∀ s, T s → T' s) (h : istep P s i T) : istep P s i T' := by
  unfold istep at *
  split at h
  · split at h
    · split at h <;> exact hT _ h
    · exact h
  · unfold callP at *
    split at h
    · obtain ⟨R, h3, hne, h4⟩ := h; exact ⟨R, h3, hne, fun cs r hr => ⟨(h4 cs r hr).1, hT _ (h4 cs r hr).2⟩⟩
    · exact h
  · unfold callXS callX at *
    split at h
    · split at h
      · obtain ⟨h1, h2, R, h3, hne, h4⟩ := h; exact ⟨h1, h2, R, h3, hne, fun cs r hr => ⟨(h4 cs r hr).1, (h4 cs r hr).2.1, hT _ (h4 cs r hr).2.2⟩⟩
      · exact h
    · exact h
  · unfold callM at *
    split at h
    · obtain ⟨h1, R, h2, h3, h4⟩ := h; exact ⟨h1, R, h2, h3, fun H r hr => ⟨(h4 H r hr).1, hT _ (h4 H r hr).2⟩⟩
    · exact h
  · generalize estep i.dst _ s = r at *
    cases r with
    | ok s => exact hT _ h
    | need p s => exact ⟨h.1, hT _ h.2⟩
    | bad => exact h

theorem gstep_mono {i : GI} {T T' : AS → Prop} (hT : ∀ s, T s → T' s) (h : gstep P s i T) : gstep P s i T' := by
  unfold gstep at *
  split at h
  · exact istep_mono hT h
  · split at h
    · split at h <;> split at h <;> first | exact istep_mono hT h | exact hT _ h
    · exact hT _ h
    · exact h

theorem aops_sound {ops : Array Oper} {ca : List (Nat × CAnn)} : ∀ (l : List Oper) (gs : List GI), l.mapM (compileGI P N ca ops) = some gs → ∀ (s : AS) (a : Act) (w : World) (E : Env), St w0 okA ext N s a w E →
    aops P gs (fun s' => ∀ a' w' E', St w0 okA ext N s' a' w' E' → Q .normal a' w') s → wpList P ops Q l a w
  | [], gs, hc, s, a, w, E, h, hK => by
    simp at hc; subst hc; exact hK a w E h
  | o :: l, gs, hc, s, a, w, E, h, hK => by
    simp only [List.mapM_cons, Option.bind_eq_bind, Option.bind_eq_some_iff, Option.pure_def, Option.some.injEq] at hc
    obtain ⟨g, hg, gs', hgs, rfl⟩ := hc
    have h1 := gstep_sound (K := wpList P ops Q l) (Q := Q) h hg (gstep_mono (fun s' hs' a' w' E' hst => aops_sound l gs' hgs s' a' w' E' hst hs') hK)
    simp only [wpList]
    split
    · rename_i hw; rw [if_pos hw] at h1; exact .inl h1
    · rename_i hw; rw [if_neg hw] at h1; exact h1
end
end Go.Ai

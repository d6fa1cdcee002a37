/-
  The abstract layer: append; what a callee is handed and hands back.
-/
import Derived.Test.YtggbcgldnjmobaaDoorAiOps3
namespace Go.Ai
open Go
set_option linter.unusedSimpArgs false
set_option linter.unusedVariables false

section
variable {P : Program} {w0 w w' : World} {okA okD : Nat → Prop} {base : Nat} {ext : Ext} {N : Nat} {s : AS} {a : Act} {E : Env} {o : Oper} {K : Act → World → Prop} {Q : Exit → Act → World → Prop}

theorem run_append_zero (base : Nat) (t ty e : TypeId) (i : TypeInfo) (size : Nat) (ht : P.underlying t = some (.slice e)) (hi : P.info? e = some i)
    (v : Value) (n : Nat) (xs : List Value) (hown : w.ownsRow base e size v n xs) (A : Option Addr) (c : Nat) : (Builtin.append_ #[t, t] ty #[v, .slice A 0 c]).run P w = .ok v w := by
  have h0 : ∀ A : Option Addr, (Builtin.firstCells i.size 0 (.slice A 0 c)).run P w = .ok #[] w := fun A => by
    cases A <;> simp [Builtin.firstCells, loadCells, loadCellsFrom]
  rcases hown.2 with ⟨rfl, rfl⟩ | ⟨g, cap, cur, rfl, _, _, hnc, _⟩
  · simp [Builtin.append_, run_underlying ht, sizeOf, typeInfo, hi, Builtin.lenOf, h0]
  · simp [Builtin.append_, run_underlying ht, sizeOf, typeInfo, hi, Builtin.lenOf, h0, hnc, storeCells]

/-- What lies where an appended slice points. -/
def SrcAt (w : World) (ok : Nat → Prop) (base z : Nat) (es : List (List Cel)) (v : Value) : Prop :=
  rowOk z es ∧ ∃ (A : Option Addr) (c : Nat) (us : List Value), v = .slice A es.length c ∧ RRel w ok base es.flatten us ∧ (es.length = 0 ∨ ∃ b off, A = some ⟨b, off, none⟩ ∧ ∀ j u, us[j]? = some u → w.cell? ⟨b, off + j, none⟩ = some u)

theorem dat_isD {ok : Nat → Prop} {c : Cel} {v : Value} (h : DRel w ok c v) : c.dat.isD = true ∧ CRel0 w ok base Env.none c.dat v := by
  cases h with
  | g hv => exact ⟨rfl, rfl, hv⟩
  | any hv => exact ⟨rfl, hv⟩
  | nil => exact ⟨rfl, DRel.nil⟩
  | sl us h1 h2 h3 h4 h5 h6 h7 => exact ⟨rfl, DRel.sl us h1 h2 h3 h4 h5 h6 h7⟩
theorem tof_isD {ok : Nat → Prop} {c : Cel} {v : Value} (h : DRel w (fun b => base ≤ b ∧ ok b) c v) : c.tof.isD = true ∧ CRel0 w ok base Env.none c.tof v := by
  cases h with
  | g hv => exact ⟨rfl, rfl, hv⟩
  | any hv => exact ⟨rfl, hv⟩
  | nil => exact ⟨rfl, DRel.nil⟩
  | sl us h1 h2 h3 h4 h5 h6 h7 => exact ⟨rfl, DRel.sl us h1 h2 h3 h4 h5 h6 h7⟩

theorem src_of_D {ok : Nat → Prop} {fr : Bool} {z : Nat} {es : List (List Cel)} {v : Value} (f : Cel → Cel) (hf : ∀ {c v}, DRel w okD c v → (f c).isD = true ∧ CRel0 w ok base Env.none (f c) v) (h : DRel w okD (.sl fr z es) v) :
    SrcAt w ok base z (es.map (List.map f)) v := by
  cases h with
  | @nil _ _ A c => exact ⟨fun e he => by simp at he, A, c, [], rfl, .nil, .inl rfl⟩
  | @sl _ _ _ b off n c us hn hc hb hlt hz hcell hrel =>
    have hro : rowOk z (es.map (List.map f)) := fun e he => by
      obtain ⟨e', h1, rfl⟩ := List.mem_map.1 he
      simpa using hz e' h1
    have hlen : (es.map (List.map f)).flatten.length = es.length * z := by rw [flatten_len hro]; simp
    have hat : ∀ {j : Nat} {c : Cel}, (es.map (List.map f)).flatten[j]? = some c → ∃ i k e x, es[i]? = some e ∧ e[k]? = some x ∧ c = f x ∧ j = i * z + k := fun {j c} hj => by
      obtain ⟨i, k, e, h1, h2, h3⟩ := flatten_inv hro hj
      rw [List.getElem?_map] at h1
      cases he : es[i]? with
      | none => rw [he] at h1; cases h1
      | some e0 =>
        rw [he] at h1; simp only [Option.map_some, Option.some.injEq] at h1; subst h1
        rw [List.getElem?_map] at h2
        cases hx : e0[k]? with
        | none => rw [hx] at h2; cases h2
        | some x => rw [hx] at h2; simp only [Option.map_some, Option.some.injEq] at h2; exact ⟨i, k, e0, x, he, hx, h2.symm, h3⟩
    refine ⟨hro, some ⟨b, off, none⟩, c, (List.range (es.length * z)).map (fun j => us (j / z) (j % z)), by simp [hn], ⟨by rw [hlen]; simp, fun j c u hj hu => ?_⟩, .inr ⟨b, off, rfl, fun j u hu => ?_⟩⟩
    · obtain ⟨i, k, e, x, h1, h2, rfl, h3⟩ := hat hj
      have hk : k < z := by have := (List.getElem?_eq_some_iff.1 h2).1; have := hz e (List.mem_of_getElem? h1); omega
      have hlt' : j < es.length * z := by rw [← hlen]; exact (List.getElem?_eq_some_iff.1 hj).1
      rw [List.getElem?_map, List.getElem?_range hlt'] at hu
      simp only [Option.map_some, Option.some.injEq] at hu
      subst hu
      have e1 : j / z = i := by rw [h3, Nat.mul_comm, Nat.mul_add_div (by omega), Nat.div_eq_of_lt hk]; omega
      have e2 : j % z = k := by rw [h3, Nat.mul_comm, Nat.mul_add_mod, Nat.mod_eq_of_lt hk]
      rw [e1, e2]
      exact hf (hrel i e k x h1 h2)
    · have hlt' : j < es.length * z := by have := (List.getElem?_eq_some_iff.1 hu).1; simpa using this
      rw [List.getElem?_map, List.getElem?_range hlt'] at hu
      simp only [Option.map_some, Option.some.injEq] at hu
      subst hu
      have hz0 : 0 < z := by rcases Nat.eq_zero_or_pos z with h | h; · subst h; simp at hlt'
                             · exact h
      have hi : j / z < es.length := (Nat.div_lt_iff_lt_mul hz0).2 hlt'
      have hk : j % z < z := Nat.mod_lt _ hz0
      have he : es[j / z]? = some es[j / z] := List.getElem?_eq_getElem hi
      have hel : es[j / z].length = z := hz _ (List.getElem_mem _)
      have hx : es[j / z][j % z]? = some (es[j / z][j % z]'(by omega)) := List.getElem?_eq_getElem (by omega)
      have := hcell _ _ _ _ he hx
      rw [← this]
      congr 2
      have := Nat.div_add_mod j z
      rw [Nat.mul_comm] at this
      omega

theorem src_at (h : St w0 okA ext N s a w E) {x : Val} {v : Value} {z : Nat} {es : List (List Cel)} (hx : VRel w (okE w0 okA E) w0.heap.size E x v) (hs : s.src z x = some es) : SrcAt w (okE w0 okA E) w0.heap.size z es v := by
  unfold AS.src at hs
  split at hs
  · rename_i fr z' es0
    split at hs
    · rename_i hz; subst hz
      simp only [Option.some.injEq] at hs; subst hs
      have h1 := one_c hx rfl
      cases fr with
      | false => exact src_of_D Cel.dat dat_isD (show DRel w (okE w0 okA E) (.sl false z' es0) v from h1)
      | true => exact src_of_D Cel.tof tof_isD (show DRel w (fun b => w0.heap.size ≤ b ∧ okE w0 okA E b) (.sl true z' es0) v from h1)
    · cases hs
  · simp only [Option.some.injEq] at hs; subst hs
    rename_i c
    have := one_g hx rfl
    subst this
    exact ⟨fun e he => by simp at he, none, c, [], rfl, .nil, .inl rfl⟩
  · rename_i k ver
    split at hs
    · rename_i r hr
      split at hs
      · rename_i hcond
        obtain ⟨hver, hz⟩ := hcond
        simp only [Option.some.injEq] at hs; subst hs
        obtain ⟨_, ver', z', u, hm, hle, hu, hzp⟩ := one_c hx rfl
        obtain ⟨_, hro, u', vs, hm', hown, hrel⟩ := h.rwS hr (h.zpos hr hm hzp)
        rw [hm] at hm'
        simp only [Option.some.injEq, Prod.mk.injEq] at hm'
        obtain ⟨rfl, rfl, rfl⟩ := hm'
        rw [hu hver]
        subst hz
        rcases hown.2 with ⟨rfl, h0⟩ | ⟨g, cap, cur, rfl, hb, hg, hnc, hcm, hcs, htake⟩
        · exact ⟨hro, none, 0, vs, by rw [h0], hrel, .inl h0⟩
        · refine ⟨hro, some ⟨g, 0, none⟩, cap, vs, rfl, hrel, .inr ⟨g, 0, rfl, fun j u hj => ?_⟩⟩
          have := hown.cells (g := g) rfl _ _ hj
          rw [add_none] at this; exact this
      · cases hs
    · cases hs
  · cases hs

theorem s_append (h : St w0 okA ext N s a w E) {t e : TypeId} {i : TypeInfo} {x x' : Operand} {y y' : Opd} (hx : opd x = some y) (hx' : opd x' = some y') (hu : P.underlying t = some (.slice e)) (hi : P.info? e = some i)
    (hzero : (i.zero.map (·.cells.size)) = some i.size)
    (ho : o.op = .call { callee := .builtin .append, args := #[x, x'], argTypes := #[t, t] }) (hd : ∀ k, o.dst = some k → k < N) (hK : SGood (estep o.dst (.append e i.size i.bytes y y') s) (Serves w0 okA ext N K)) : o.wp P a w K Q := by
  simp only [estep] at hK
  have hr := ev_rel h hx
  have hr' := ev_rel h hx'
  split at hK
  · rename_i k ver es hv hv'
    split at hK
    · rename_i r hs
      split at hK
      · rename_i hcond
        obtain ⟨hver, he, hz⟩ := hcond
        obtain ⟨⟨hby, h63⟩, hK⟩ := hK
        obtain ⟨_, ver', z', u, hm, hle, hu', hzp⟩ := one_c hr hv
        obtain ⟨hzr, hrow, u', vs, hm', hown, hrel⟩ := h.rwS hs (h.zpos hs hm hzp)
        have hm2 := hm
        rw [hm] at hm'
        simp only [Option.some.injEq, Prod.mk.injEq] at hm'
        obtain ⟨rfl, rfl, rfl⟩ := hm'
        have hx1 := hu' hver
        subst he
        obtain ⟨zv, hzv, hzs⟩ : ∃ zv, i.zero = some zv ∧ zv.cells.size = i.size := by
          cases hzz : i.zero with
          | none => rw [hzz] at hzero; cases hzero
          | some zv => rw [hzz] at hzero; exact ⟨zv, rfl, by simpa using hzero⟩
        obtain ⟨hro, A, c, us, hval, hrel', hcells⟩ := src_at h hr' hv'
        rw [hz] at hro
        -- the call, whatever is appended
        have key : ∃ u1 w1, (Builtin.append_ #[t, t] o.type #[u, a.eval x']).run P w = .ok u1 w1 ∧ w1.ownsRow 0 r.E r.z u1 (r.es.length + es.length) (vs ++ us) ∧ w.grownBy w1 (blkV u) ∧
            ((blkV u1) = (blkV u) ∨ (blkV u1) = some w.heap.size) := by
          have hul : us.length = es.length * r.z := by rw [← hrel'.1, flatten_len hro]
          rw [hval]
          rcases hcells with h0 | ⟨b, off, rfl, hc⟩
          · have e1 : us = [] := by apply List.eq_nil_of_length_eq_zero; rw [hul, h0]; simp
            subst e1
            rw [h0]
            refine ⟨u, w, run_append_zero 0 t o.type r.E i r.z hu hi u _ _ hown A c, by simpa using hown, World.grownBy.refl _ _, .inl rfl⟩
          · obtain ⟨u1, w1, hrun, h2, h3, _, h5⟩ := run_append_own_at (P := P) w 0 t o.type r.E i zv r.z i.bytes hu hi hzv hz rfl (by omega) hzr u _ _ hown ⟨b, off, none⟩ es.length c us hul (fun j uu hj => by
              rw [add_none]; exact hc j uu hj) hrel'.ones (by simp only [maxLen]; omega) hby (Nat.zero_le _)
            exact ⟨u1, w1, hrun, h2, by rw [row_blkV hown]; exact h3, by rw [row_blkV h2, row_blkV hown]; exact h5⟩
        obtain ⟨u1, w1, hrun, hown1, hgr1, hat1⟩ := key
        have hst := h.rowTurn (r' := { r with ver := r.ver + 1, es := r.es ++ es }) (u' := u1) (vs' := vs ++ us) hzr hs hm2 rfl (Nat.le_succ _) (fun h => by simp at h) (fun e he => by
          rcases List.mem_append.1 he with h1 | h1
          · exact hrow e h1
          · exact hro e h1) hgr1 (by simpa using hown1) (by simpa using hrel.append hrel') hat1
        have hone : u1.oneCell' = true := by
          rcases hown1.2 with ⟨rfl, _⟩ | ⟨g, cap, cur, rfl, _⟩ <;> rfl
        refine wp_value (v := u1) (w' := w1) ?_ (hK _ _ _ (hst.put (.one ⟨hone, r.ver + 1, r.z, u1, by simp [upd_same], Nat.le_refl _, fun _ => rfl, hzr⟩) hd))
        simp [execOp, ho, resolve, invoke, builtin, hx1, hrun]
      · exact hK.elim
    · exact hK.elim
  · exact hK.elim

/-! ### calls -/
/-- Nothing of the call's own memory is shown by this argument. -/
def plainC (c : Cel) : Bool := match c with | .g _ | .sl _ _ _ | .ep _ | .any => true | .fn _ caps => caps.all (fun c => match c with | .g _ => true | _ => false) | _ => false
def plainV : Val → Bool
  | .one c => plainC c
  | .ag cs => cs.all plainC
  | .tu _ => true
  | .any => true
def freshV : Val → Bool
  | .one c => freshC c
  | .ag cs => cs.all freshC
  | .tu vs => vs.all fun v => match v with | .one c => freshC c | .ag cs => cs.all freshC | .any => true | .tu _ => false
  | .any => true
/-- A result whose parts are data. -/
def dataRC (c : Cel) : Bool := match c with | .g _ | .sl _ _ _ | .ep _ | .any => true | _ => false
def dataRV : Val → Bool
  | .one c => dataRC c
  | .ag cs => cs.all dataRC
  | .tu vs => vs.all fun v => match v with | .one c => dataRC c | .ag cs => cs.all dataRC | .any => true | .tu _ => false
  | .any => true

theorem view_relC (h : St w0 okA ext N s a w E) {c : Cel} {v : Value} {ok' : Nat → Prop} {base' : Nat} {E' : Env} (hc : CRel w (okE w0 okA E) w0.heap.size E c v) (hw : ∀ b, okE w0 okA E b → ok' b)
    (hrow : ∀ k ver z u b, s.rw k ≠ none → E.rm k = some (ver, z, u) → (blkV u) = some b → ok' b) (hbox : ∀ k g, s.bx k ≠ none → E.gm k = some g → ok' g) : CRel w ok' base' E' (s.viewC c) v := by
  have key : ∀ {c}, CRel0 w ok' base' E' c v → CRel w ok' base' E' c v := fun {c} h => by cases c <;> first | exact h | exact h.elim
  cases c with
  | fn f caps =>
    obtain ⟨us, rfl, hl, hcs⟩ := hc
    refine ⟨us, rfl, by simpa using hl, fun i c u h1 h2 => ?_⟩
    rw [List.getElem?_map] at h1
    cases hi : caps[i]? with
    | none => rw [hi] at h1; cases h1
    | some c0 => rw [hi] at h1; simp at h1; subst h1; exact view_rel0 h (hcs i c0 u hi h2) hw hw hrow hbox
  | g u => exact key (view_rel0 h (base := w0.heap.size) (c := .g u) hc hw hw hrow hbox)
  | sl fr z es => exact key (view_rel0 h (base := w0.heap.size) (c := .sl fr z es) hc hw hw hrow hbox)
  | ep cs => exact key (view_rel0 h (base := w0.heap.size) (c := .ep cs) hc hw hw hrow hbox)
  | bx k off => exact key (view_rel0 h (base := w0.heap.size) (c := .bx k off) hc hw hw hrow hbox)
  | ow k ver => exact key (view_rel0 h (base := w0.heap.size) (c := .ow k ver) hc hw hw hrow hbox)
  | op k ver i off => exact key (view_rel0 h (base := w0.heap.size) (c := .op k ver i off) hc hw hw hrow hbox)
  | os k ver lo => exact key (view_rel0 h (base := w0.heap.size) (c := .os k ver lo) hc hw hw hrow hbox)
  | mp k => exact key (view_rel0 h (base := w0.heap.size) (c := .mp k) hc hw hw hrow hbox)
  | any => exact key (view_rel0 h (base := w0.heap.size) (c := .any) hc hw hw hrow hbox)

theorem view_relV (h : St w0 okA ext N s a w E) {x : Val} {v : Value} {ok' : Nat → Prop} {base' : Nat} {E' : Env} (hx : VRel w (okE w0 okA E) w0.heap.size E x v) (hw : ∀ b, okE w0 okA E b → ok' b)
    (hrow : ∀ k ver z u b, s.rw k ≠ none → E.rm k = some (ver, z, u) → (blkV u) = some b → ok' b) (hbox : ∀ k g, s.bx k ≠ none → E.gm k = some g → ok' g) : VRel w ok' base' E' (s.view x) v := by
  cases hx with
  | one h1 => exact .one (view_relC h h1 hw hrow hbox)
  | @ag cs us h1 =>
    refine .ag ⟨by simpa using h1.1, fun i c u h2 h3 => ?_⟩
    rw [List.getElem?_map] at h2
    cases hi : cs[i]? with
    | none => rw [hi] at h2; cases h2
    | some c0 => rw [hi] at h2; simp at h2; subst h2; exact view_relC h (h1.2 i c0 u hi h3) hw hrow hbox
  | tu => exact .any
  | any => exact .any

/-- A plain argument shows no memory of the call's own. -/
theorem plain_relC {c : Cel} {v : Value} {base' : Nat} {E' : Env} (hc : CRel w (okE w0 okA E) w0.heap.size E c v) (hp : plainC c = true) : CRel w (okE w0 okA E) base' E' (s.viewC c) v := by
  cases c with
  | g u => exact hc
  | sl fr z es =>
    have hd : DRel w (okE w0 okA E) (.sl false z es) v := by
      have h2 : DRel w (okE w0 okA E) (.sl fr z es) v := by
        cases fr with
        | false => exact hc
        | true => exact DRel.keep (ok := fun b => w0.heap.size ≤ b ∧ okE w0 okA E b) hc (.refl _ w) (fun b _ h => h.2)
      cases h2 with
      | nil => exact .nil
      | sl us h1 h2 h3 h4 h5 h6 h7 => exact .sl us h1 h2 h3 h4 h5 h6 h7
    exact hd
  | ep cs => exact hc
  | any => exact hc
  | fn f caps =>
    obtain ⟨us, rfl, hl, hcs⟩ := hc
    refine ⟨us, rfl, by simpa using hl, fun i c u h1 h2 => ?_⟩
    rw [List.getElem?_map] at h1
    cases hi : caps[i]? with
    | none => rw [hi] at h1; cases h1
    | some c0 =>
      rw [hi] at h1; simp at h1; subst h1
      have h3 := List.all_eq_true.1 hp c0 (List.mem_of_getElem? hi)
      have h4 := hcs i c0 u hi h2
      cases c0 <;> simp at h3
      exact h4
  | bx k off => cases hp
  | ow k ver => cases hp
  | op k ver i off => cases hp
  | os k ver lo => cases hp
  | mp k => cases hp

theorem plain_relCs {cs : List Cel} {us : List Value} {base' : Nat} {E' : Env} (h1 : CsRel w (okE w0 okA E) w0.heap.size E cs us) (hp : cs.all plainC = true) : CsRel w (okE w0 okA E) base' E' (cs.map s.viewC) us := by
  refine ⟨by simpa using h1.1, fun i c u h2 h3 => ?_⟩
  rw [List.getElem?_map] at h2
  cases hi : cs[i]? with
  | none => rw [hi] at h2; cases h2
  | some c0 => rw [hi] at h2; simp at h2; subst h2; exact plain_relC (h1.2 i c0 u hi h3) (List.all_eq_true.1 hp c0 (List.mem_of_getElem? hi))

theorem plain_relV {x : Val} {v : Value} {base' : Nat} {E' : Env} (hx : VRel w (okE w0 okA E) w0.heap.size E x v) (hp : plainV x = true) : VRel w (okE w0 okA E) base' E' (s.view x) v := by
  cases hx with
  | one h1 => exact .one (plain_relC h1 hp)
  | ag h1 => exact .ag (plain_relCs h1 hp)
  | tu => exact .any
  | any => exact .any

/-- What a callee hands back, in the caller's words. -/
theorem back_relC (h : St w0 okA ext N s a w E) {c : Cel} {v : Value} {ok' : Nat → Prop} (hc : CRel w' ok' w.heap.size Env.none c v) (hok : ∀ b, w.heap.size ≤ b → ok' b → okE w0 okA E b) (hcond : freshC c = true ∨ (dataRC c = true ∧ ∀ b, ok' b → okE w0 okA E b)) :
    CRel w' (okE w0 okA E) w0.heap.size E c v := by
  have hsz := h.frame.size
  cases c with
  | g u => exact hc
  | any => exact hc
  | sl fr z es =>
    cases fr with
    | true => exact DRel.keep (ok := fun b => w.heap.size ≤ b ∧ ok' b) hc (.refl _ w') (fun b _ hb => ⟨Nat.le_trans hsz hb.1, hok b hb.1 hb.2⟩)
    | false =>
      rcases hcond with h1 | h1
      · cases h1
      · exact DRel.keep hc (.refl _ w') (fun b _ hb => h1.2 b hb)
  | ep cs =>
    rcases hcond with h1 | h1
    · cases h1
    · obtain ⟨b, off, us, rfl, h2, h3, h4⟩ := hc
      exact ⟨b, off, us, rfl, h1.2 b h2, h3, fun j x hx => ⟨(h4 j x hx).1, (h4 j x hx).2.keep (.refl _ w') (fun b _ hb => h1.2 b hb)⟩⟩
  | bx k off => rcases hcond with h1 | h1 <;> simp [freshC, dataRC] at h1
  | ow k ver => rcases hcond with h1 | h1 <;> simp [freshC, dataRC] at h1
  | op k ver i off => rcases hcond with h1 | h1 <;> simp [freshC, dataRC] at h1
  | os k ver lo => rcases hcond with h1 | h1 <;> simp [freshC, dataRC] at h1
  | mp k => rcases hcond with h1 | h1 <;> simp [freshC, dataRC] at h1
  | fn f caps => rcases hcond with h1 | h1 <;> simp [freshC, dataRC] at h1

theorem back_relV (h : St w0 okA ext N s a w E) {x : Val} {v : Value} {ok' : Nat → Prop} (hx : VRel w' ok' w.heap.size Env.none x v) (hok : ∀ b, w.heap.size ≤ b → ok' b → okE w0 okA E b) (hcond : freshV x = true ∨ (dataRV x = true ∧ ∀ b, ok' b → okE w0 okA E b)) :
    VRel w' (okE w0 okA E) w0.heap.size E x v := by
  have hag : ∀ {cs us}, CsRel w' ok' w.heap.size Env.none cs us → (cs.all freshC = true ∨ (cs.all dataRC = true ∧ ∀ b, ok' b → okE w0 okA E b)) → CsRel w' (okE w0 okA E) w0.heap.size E cs us := fun {cs us} h1 hc =>
    ⟨h1.1, fun i c u h2 h3 => back_relC h (h1.2 i c u h2 h3) hok (hc.imp (fun h => List.all_eq_true.1 h c (List.mem_of_getElem? h2)) (fun h => ⟨List.all_eq_true.1 h.1 c (List.mem_of_getElem? h2), h.2⟩))⟩
  cases hx with
  | one h1 => exact .one (back_relC h h1 hok hcond)
  | ag h1 => exact .ag (hag h1 hcond)
  | @tu vs us hl h1 =>
    refine .tu hl fun i x u h2 h3 => ?_
    have h4 := h1 i x u h2 h3
    have h5 : (match x with | .one c => freshC c = true | .ag cs => cs.all freshC = true | .any => True | .tu _ => False) ∨ ((match x with | .one c => dataRC c = true | .ag cs => cs.all dataRC = true | .any => True | .tu _ => False) ∧ ∀ b, ok' b → okE w0 okA E b) := by
      rcases hcond with h6 | h6
      · have := List.all_eq_true.1 h6 x (List.mem_of_getElem? h2)
        left; cases x <;> simp_all
      · have := List.all_eq_true.1 h6.1 x (List.mem_of_getElem? h2)
        right; refine ⟨?_, h6.2⟩; cases x <;> simp_all
    cases h4 with
    | one h7 => exact .one (back_relC h h7 hok h5)
    | ag h7 => exact .ag (hag h7 h5)
    | tu => rcases h5 with h5 | h5 <;> simp at h5
    | any => exact .any
  | any => exact .any

/-- Behind a callee that only reads. -/
theorem St.called (h : St w0 okA ext N s a w E) (hg : w.grownBy w' none) {d : Option Nat} {x : Val} {v : Value} {ok' : Nat → Prop} (hx : VRel w' ok' w.heap.size Env.none x v)
    (hcond : freshV x = true ∨ (dataRV x = true ∧ ∀ b, ok' b → okE w0 okA E b)) (hd : ∀ k, d = some k → k < N) : St w0 okA ext N (s.put d x) (a.put d v) w' E := by
  refine (h.grown hg).put (back_relV h hx (fun b hb _ => ⟨fun k hk => ?_, fun k ver z u hk hu => ?_, .inl (Nat.le_trans h.frame.size hb)⟩) hcond) hd
  · have := h.glt hk; omega
  · have := h.rlt hk hu; omega
end
end Go.Ai

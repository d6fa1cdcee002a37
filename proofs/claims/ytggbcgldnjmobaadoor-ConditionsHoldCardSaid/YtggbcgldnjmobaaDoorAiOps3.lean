/-
  The abstract layer: slices cut, struct and slice literals, append.
-/
import Derived.Test.YtggbcgldnjmobaaDoorAiOps2
namespace Go.Ai
open Go
set_option linter.unusedSimpArgs false
set_option linter.unusedVariables false

section
variable {P : Program} {w0 w w' : World} {okA : Nat → Prop} {ext : Ext} {N : Nat} {s : AS} {a : Act} {E : Env} {o : Oper} {K : Act → World → Prop} {Q : Exit → Act → World → Prop}

theorem slice_form {c : Cel} {v : Value} {fr : Bool} {z : Nat} {es : List (List Cel)} {ok : Nat → Prop} (h : DRel w ok c v) (hc : c = .sl fr z es) : ∃ b n, v = .slice b es.length n ∧ es.length ≤ n ∨ ∃ b n, v = .slice b 0 n ∧ es = [] := by
  subst hc
  cases h with
  | nil => exact ⟨none, 0, .inr ⟨_, _, rfl, rfl⟩⟩
  | sl us h1 h2 => subst h1; exact ⟨_, _, .inl ⟨rfl, h2⟩⟩

theorem DRel.cut {v : Value} {fr : Bool} {z : Nat} {es : List (List Cel)} {ok : Nat → Prop} (h : DRel w ok (.sl fr z es) v) {l hh : Nat} (hl : l ≤ hh) (hle : hh ≤ es.length) :
    ∃ b n c, v = .slice b n c ∧ n = es.length ∧ n ≤ c ∨ (∃ b c, v = .slice b 0 c ∧ es = [] ∧ l = 0 ∧ hh = 0) := by
  cases h with
  | nil => simp at hle; subst hle; simp at hl; subst hl; exact ⟨none, 0, 0, .inr ⟨_, _, rfl, rfl, rfl, rfl⟩⟩
  | sl us h1 h2 => exact ⟨_, _, _, .inl ⟨rfl, h1, h2⟩⟩

theorem cut_rel {v : Value} {fr : Bool} {z : Nat} {es : List (List Cel)} {ok : Nat → Prop} (h : DRel w ok (.sl fr z es) v) {l hh : Nat} (hl : l ≤ hh) (hle : hh ≤ es.length) {b : Option Addr} {n c : Nat} (hv : v = .slice b n c) (hc : hh ≤ c) :
    DRel w ok (.sl fr z ((es.take hh).drop l)) (.slice (if c = l then b else b.map (·.add (l * z))) (hh - l) (c - l)) := by
  subst hv
  by_cases he : (es.take hh).drop l = []
  · rw [he]
    have : hh - l = 0 := by have := congrArg List.length he; simp at this; omega
    rw [this]; exact .nil
  · cases h with
    | nil => simp at he
    | @sl fr z es b off n c us h1 h2 h3 h4 h5 h6 h7 =>
      have hlt : l < hh := by
        rcases Nat.lt_or_ge l hh with h | h
        · exact h
        · exact absurd (List.drop_eq_nil_of_le (by simp; omega)) he
      rw [if_neg (by omega)]
      simp only [Option.map_some, add_none]
      refine .sl (fun i j => us (l + i) j) (by simp; omega) (by omega) h3 h4 (fun e hm => h5 e (List.mem_of_mem_take (List.mem_of_mem_drop hm))) (fun i e j x hi hx => ?_) (fun i e j x hi hx => ?_)
      · rw [List.getElem?_drop, List.getElem?_take] at hi
        split at hi
        · have h8 := h6 _ _ _ _ hi hx
          rw [Nat.add_mul] at h8
          rw [show off + l * z + i * z + j = off + (l * z + i * z) + j by omega]; exact h8
        · cases hi
      · rw [List.getElem?_drop, List.getElem?_take] at hi
        split at hi
        · exact h7 _ _ _ _ hi hx
        · cases hi

theorem DRel.cap {v : Value} {fr : Bool} {z : Nat} {es : List (List Cel)} {ok : Nat → Prop} (h : DRel w ok (.sl fr z es) v) : ∃ b c, v = .slice b es.length c ∧ es.length ≤ c := by
  cases h with
  | nil => exact ⟨_, _, rfl, Nat.zero_le _⟩
  | sl us h1 h2 => subst h1; exact ⟨_, _, rfl, h2⟩

theorem run_slice_own {t e : TypeId} {i : TypeInfo} (hu : P.underlying t = some (.slice e)) (hi : P.info? e = some i) (x : Value) (lo hi' : Option Value) {b : Option Addr} {n c l h : Nat} (hx : x = .slice b n c) (hn : n ≤ c)
    (hlo : (lo = none ∧ l = 0) ∨ ∃ k m, lo = some (.int k m) ∧ 0 ≤ m ∧ l = m.toNat) (hh : (hi' = none ∧ h = n) ∨ ∃ k m, hi' = some (.int k m) ∧ 0 ≤ m ∧ h = m.toNat) (hlh : l ≤ h) (hhn : h ≤ n) (w : World) :
    (Instr.sliceAt t x lo hi' none).run P w = .ok (.slice (if c = l then b else b.map (·.add (l * i.size))) (h - l) (c - l)) w := by
  subst hx
  have hcl : (c : Int) = c := rfl
  rcases hlo with ⟨rfl, rfl⟩ | ⟨k, m, rfl, hm, rfl⟩ <;> rcases hh with ⟨rfl, rfl⟩ | ⟨k', m', rfl, hm', rfl⟩
  · simp [Instr.sliceAt, run_underlying hu, Instr.slice, Instr.sliceBounds, sizeOf, typeInfo, hi]
  · have h1 : m' ≤ (c : Int) := by omega
    simp [Instr.sliceAt, run_underlying hu, Instr.slice, Instr.sliceBounds, Instr.sliceBound, asIntOf, sizeOf, typeInfo, hi, hm', h1]
  · have h1 : m ≤ (h : Int) := by omega
    simp [Instr.sliceAt, run_underlying hu, Instr.slice, Instr.sliceBounds, Instr.sliceBound, asIntOf, sizeOf, typeInfo, hi, hm, h1]
  · have h1 : m' ≤ (c : Int) := by omega
    have h2 : m ≤ m' := by omega
    have h3 : (m'.toNat : Int) = m' := by omega
    simp [Instr.sliceAt, run_underlying hu, Instr.slice, Instr.sliceBounds, Instr.sliceBound, asIntOf, sizeOf, typeInfo, hi, hm, hm', h1, h2, h3]

theorem slc_core (h : St w0 okA ext N s a w E) {t e : TypeId} {i : TypeInfo} {x : Operand} {y : Opd} (hx : opd x = some y) (hu : P.underlying t = some (.slice e)) (hi : P.info? e = some i) (lo hi' : Option Operand)
    (ho : o.op = .slice t x lo hi' none) (hd : ∀ k, o.dst = some k → k < N) {fr : Bool} {es : List (List Cel)} (hv : s.ev y = .one (.sl fr i.size es)) {l hh : Nat}
    (hlo : (lo.map a.eval = none ∧ l = 0) ∨ ∃ k m, lo.map a.eval = some (.int k m) ∧ 0 ≤ m ∧ l = m.toNat) (hhi : (hi'.map a.eval = none ∧ hh = es.length) ∨ ∃ k m, hi'.map a.eval = some (.int k m) ∧ 0 ≤ m ∧ hh = m.toNat) (hlh : l ≤ hh) (hhn : hh ≤ es.length)
    (hK : Serves w0 okA ext N K (s.put o.dst (.one (.sl fr i.size ((es.take hh).drop l))))) : o.wp P a w K Q := by
  have hr := ev_rel h hx
  have h1 : DRel w (if fr then (fun b => w0.heap.size ≤ b ∧ okE w0 okA E b) else okE w0 okA E) (.sl fr i.size es) (a.eval x) := one_c hr hv
  obtain ⟨b, c, hval, hcap⟩ := h1.cap
  have hrun := run_slice_own hu hi (a.eval x) (lo.map a.eval) (hi'.map a.eval) hval hcap hlo hhi hlh hhn w
  have h2 := cut_rel h1 hlh hhn hval (Nat.le_trans hhn hcap)
  refine wp_value (v := _) (w' := w) ?_ (hK _ _ E (h.put (.one h2) hd))
  simp only [execOp, ho, Option.map_none, Sem.run_bind, hrun]
  rfl

theorem s_slc (h : St w0 okA ext N s a w E) {t e : TypeId} {i : TypeInfo} {x : Operand} {y : Opd} (hx : opd x = some y) (hu : P.underlying t = some (.slice e)) (hi : P.info? e = some i) (lo hi' : Option Operand) (lo' hi'' : Option Opd)
    (hlo : (lo = none ∧ lo' = none) ∨ ∃ u v, lo = some u ∧ lo' = some v ∧ opd u = some v) (hhi : (hi' = none ∧ hi'' = none) ∨ ∃ u v, hi' = some u ∧ hi'' = some v ∧ opd u = some v)
    (ho : o.op = .slice t x lo hi' none) (hd : ∀ k, o.dst = some k → k < N) (hK : SGood (estep o.dst (.slc i.size y lo' hi'') s) (Serves w0 okA ext N K)) : o.wp P a w K Q := by
  simp only [estep] at hK
  split at hK
  · rename_i fr z es hv hl hh
    split at hK
    · rename_i hz; subst hz
      rcases hlo with ⟨rfl, rfl⟩ | ⟨u, v, rfl, rfl, _⟩
      · rcases hhi with ⟨rfl, rfl⟩ | ⟨u, v, rfl, rfl, _⟩
        · refine slc_core h hx hu hi none none ho hd hv (l := 0) (hh := es.length) (.inl ⟨rfl, rfl⟩) (.inl ⟨rfl, rfl⟩) (Nat.zero_le _) (Nat.le_refl _) ?_
          have hK' : Serves w0 okA ext N K _ := hK
          simpa using hK'
        · simp at hh
      · simp at hl
    · exact hK.elim
  · rename_i fr z es k l hv hl hh
    split at hK
    · rename_i hz; subst hz
      obtain ⟨⟨h0, h1⟩, hK⟩ := hK
      rcases hlo with ⟨rfl, rfl⟩ | ⟨u, v, rfl, rfl, huv⟩
      · simp at hl
      · rcases hhi with ⟨rfl, rfl⟩ | ⟨u', v', rfl, rfl, _⟩
        · have e1 := one_g (ev_rel h huv) (by simpa using hl)
          refine slc_core h hx hu hi (some u) none ho hd hv (l := l.toNat) (hh := es.length) (.inr ⟨k, l, by simp [e1], h0, rfl⟩) (.inl ⟨rfl, rfl⟩) (by omega) (Nat.le_refl _) ?_
          simpa using hK
        · simp at hh
    · exact hK.elim
  · rename_i fr z es k m hv hl hh
    split at hK
    · rename_i hz; subst hz
      obtain ⟨⟨h0, h1⟩, hK⟩ := hK
      rcases hlo with ⟨rfl, rfl⟩ | ⟨u, v, rfl, rfl, huv⟩
      · rcases hhi with ⟨rfl, rfl⟩ | ⟨u', v', rfl, rfl, huv⟩
        · simp at hh
        · have e1 := one_g (ev_rel h huv) (by simpa using hh)
          refine slc_core h hx hu hi none (some u') ho hd hv (l := 0) (hh := m.toNat) (.inl ⟨rfl, rfl⟩) (.inr ⟨k, m, by simp [e1], h0, rfl⟩) (by omega) (by omega) ?_
          simpa using hK
      · simp at hl
    · exact hK.elim
  · rename_i fr z es k l k' m hv hl hh
    split at hK
    · rename_i hz; subst hz
      obtain ⟨⟨h0, h1, h2⟩, hK⟩ := hK
      rcases hlo with ⟨rfl, rfl⟩ | ⟨u, v, rfl, rfl, huv⟩
      · simp at hl
      · rcases hhi with ⟨rfl, rfl⟩ | ⟨u', v', rfl, rfl, huv'⟩
        · simp at hh
        · have e1 := one_g (ev_rel h huv) (by simpa using hl)
          have e2 := one_g (ev_rel h huv') (by simpa using hh)
          exact slc_core h hx hu hi (some u) (some u') ho hd hv (l := l.toNat) (hh := m.toNat) (.inr ⟨k, l, by simp [e1], h0, rfl⟩) (.inr ⟨k', m, by simp [e2], by omega, rfl⟩) (by omega) (by omega) hK
    · exact hK.elim
  · exact hK.elim

/-! ### literals -/
theorem foldl_set (off : Nat) : ∀ (l : List Value) (k : Nat) (cells : Array Value), off + k + l.length ≤ cells.size →
    ((l.zipIdx k).foldl (fun cs (p : Value × Nat) => cs.setIfInBounds (off + p.2) p.1) cells).toList = wr cells.toList (off + k) l
  | [], k, cells, _ => by simp [wr]
  | v :: l, k, cells, h => by
    simp only [List.zipIdx_cons, List.foldl_cons]
    rw [foldl_set off l (k + 1) _ (by simp at h ⊢; omega)]
    simp only [Array.toList_setIfInBounds, wr, List.length_cons]
    have hlt : off + k < cells.toList.length := by simp at h ⊢; omega
    rw [show off + (k + 1) = off + k + 1 by omega]
    rw [List.take_set, List.drop_set_of_lt (by omega)]
    rw [List.take_succ_eq_append_getElem hlt, List.set_append_right _ _ (by simp; omega)]
    simp
    simp at hlt
    rw [show min (off + k) cells.size = off + k by omega]
    simp
    omega

theorem fill_cons {place : Nat → Option (Nat × Nat)} {cells : Array Value} {i off size : Nat} {v : Value} {rest : List (Nat × Value)} (hp : place i = some (off, size)) (hs : v.cells.size = size) (hl : off + size ≤ cells.size) :
    Instr.fill place cells ((i, v) :: rest) = Instr.fill place (wr cells.toList off v.cells.toList).toArray rest := by
  have h := foldl_set off v.cells.toList 0 cells (by simp; omega)
  have h2 : v.cells.zipIdx.foldl (fun cs (p : Value × Nat) => cs.setIfInBounds (off + p.2) p.1) cells = (wr cells.toList off v.cells.toList).toArray := by
    apply Array.ext'
    rw [← Array.foldl_toList, Array.toList_zipIdx, h]; simp
  simp only [Instr.fill, hp, hs]
  rw [if_neg (by simp; omega)]
  exact congrArg (fun c => Instr.fill place c rest) h2

theorem mapM_at {α β : Type} {f : α → Option β} : ∀ {l : List α} {r : List β}, l.mapM f = some r → ∀ {i : Nat} {x : α}, l[i]? = some x → r[i]? = f x
  | [], r, h, i, x, hx => by simp at hx
  | y :: l, r, h, i, x, hx => by
    simp only [List.mapM_cons, Option.bind_eq_bind, Option.bind_eq_some_iff, Option.pure_def, Option.some.injEq] at h
    obtain ⟨b, hb, bs, hbs, rfl⟩ := h
    match i with
    | 0 => simp at hx; subst hx; simpa using hb.symm
    | i + 1 => simpa using mapM_at hbs (i := i) (x := x) (by simpa using hx)
theorem mapM_len {α β : Type} {f : α → Option β} : ∀ {l : List α} {r : List β}, l.mapM f = some r → r.length = l.length
  | [], r, h => by simp at h; subst h; rfl
  | y :: l, r, h => by
    simp only [List.mapM_cons, Option.bind_eq_bind, Option.bind_eq_some_iff, Option.pure_def, Option.some.injEq] at h
    obtain ⟨b, hb, bs, hbs, rfl⟩ := h
    simpa using mapM_len hbs

theorem s_build (h : St w0 okA ext N s a w E) {t : TypeId} {z : List Value} {parts : Array (Nat × Operand)} {ps : List (Nat × Nat × Opd)} (hz : zeroOf P t = some z)
    (hps : parts.toList.mapM (fun p => match fieldOf P t p.1, opd p.2 with
      | some f, some x => (P.info? f.type).map fun i => (f.offset, i.size, x)
      | _, _ => none) = some ps) {places : List (Nat × Nat)} (hpl : placesOf P t = some places)
    (ho : o.op = .build t parts) (hd : ∀ k, o.dst = some k → k < N) (hK : SGood (estep o.dst (.build z ps) s) (Serves w0 okA ext N K)) : o.wp P a w K Q := by
  obtain ⟨iz, vz, hiz, hvz, hzc, hones⟩ := zero_of hz
  unfold placesOf at hpl
  split at hpl
  case h_2 => cases hpl
  rename_i fs hus
  simp only [estep] at hK
  have hat : ∀ (k : Nat) (f : Field) (i : TypeInfo), fs[k]? = some f → P.info? f.type = some i → places[k]? = some (f.offset, i.size) := fun k f i hf hi => by
    have := mapM_at hpl (i := k) (x := f) (by simpa using hf)
    rw [hi] at this; simpa using this
  let place : Nat → Option (Nat × Nat) := fun k => places[k]?
  have key : ∀ (l : List (Nat × Operand)) (ps : List (Nat × Nat × Opd)) (cs : List Cel) (cells : Array Value) (out : List Cel), CsRel w (okE w0 okA E) w0.heap.size E cs cells.toList →
      l.mapM (fun p => match fieldOf P t p.1, opd p.2 with
        | some f, some x => (P.info? f.type).map fun i => (f.offset, i.size, x)
        | _, _ => none) = some ps →
      ps.foldl (fun acc p => match acc, vcells (s.ev p.2.2) with
        | some cs, some news => if news.length = p.2.1 ∧ p.1 + p.2.1 ≤ cs.length then some (wr cs p.1 news) else none
        | _, _ => none) (some cs) = some out →
      ∃ cells', Instr.fill place cells (l.map fun p => (p.1, a.eval p.2)) = some cells' ∧ CsRel w (okE w0 okA E) w0.heap.size E out cells'.toList := by
    intro l
    induction l with
    | nil => intro ps cs cells out hc h1 h2; simp at h1; subst h1; simp at h2; subst h2; exact ⟨cells, rfl, hc⟩
    | cons p l ih =>
      intro ps cs cells out hc h1 h2
      simp only [List.mapM_cons, Option.bind_eq_bind, Option.bind_eq_some_iff, Option.pure_def, Option.some.injEq] at h1
      obtain ⟨q, hq, qs, hqs, rfl⟩ := h1
      split at hq
      · rename_i f x hf hx
        simp only [Option.map_eq_some_iff] at hq
        obtain ⟨i, hi, rfl⟩ := hq
        simp only [List.foldl_cons] at h2
        cases hv : vcells (s.ev x) with
        | none =>
          rw [hv] at h2
          have : ∀ (l : List (Nat × Nat × Opd)), l.foldl (fun acc p => match acc, vcells (s.ev p.2.2) with
            | some cs, some news => if news.length = p.2.1 ∧ p.1 + p.2.1 ≤ cs.length then some (wr cs p.1 news) else none
            | _, _ => none) (none : Option (List Cel)) = none := by
            intro l; induction l with
            | nil => rfl
            | cons y l ih => simpa using ih
          simp only [this] at h2; cases h2
        | some news =>
          rw [hv] at h2
          simp only [] at h2
          by_cases hcond : news.length = i.size ∧ f.offset + i.size ≤ cs.length
          · rw [if_pos hcond] at h2
            have hr := (ev_rel h hx).cells hv
            have hfs : fs[p.1]? = some f := by
              unfold fieldOf at hf; rw [hus] at hf; exact hf
            have hsz : (a.eval p.2).cells.size = i.size := by have := hr.1; simp at this; omega
            have hcl : cs.length = cells.size := by simpa using hc.1
            have hfill := fill_cons (place := place) (cells := cells) (i := p.1) (off := f.offset) (size := i.size) (v := a.eval p.2) (rest := l.map fun p => (p.1, a.eval p.2)) (hat _ _ _ hfs hi) hsz (by omega)
            obtain ⟨cells', h3, h4⟩ := ih qs _ (wr cells.toList f.offset (a.eval p.2).cells.toList).toArray out (by simpa using hc.wr hr) hqs h2
            exact ⟨cells', by rw [List.map_cons, hfill]; exact h3, h4⟩
          · rw [if_neg hcond] at h2
            have : ∀ (l : List (Nat × Nat × Opd)), l.foldl (fun acc p => match acc, vcells (s.ev p.2.2) with
              | some cs, some news => if news.length = p.2.1 ∧ p.1 + p.2.1 ≤ cs.length then some (wr cs p.1 news) else none
              | _, _ => none) (none : Option (List Cel)) = none := by
              intro l; induction l with
              | nil => rfl
              | cons y l ih => simpa using ih
            simp only [this] at h2; cases h2
      · cases hq
  split at hK
  · rename_i out hout
    obtain ⟨cells', h3, h4⟩ := key parts.toList ps (z.map .g) vz.cells out (by rw [hzc]; exact CsRel.gs z hones) hps hout
    refine wp_value (v := .agg cells') (w' := w) ?_ (hK _ _ E (h.put (by simpa using VRel.ag h4) hd))
    have hb : P.built t ((parts.map fun (i, x) => (i, a.eval x)).toList) = some cells' := by
      unfold Program.built
      have h5 : (parts.map fun (i, x) => (i, a.eval x)).toList = parts.toList.map fun p => (p.1, a.eval p.2) := by simp
      rw [h5]
      simp only [hiz, hus, hvz, hpl]
      simpa [place] using h3
    simp only [execOp, ho, Sem.run_bind, run_build w t _ cells' hb, Result.andThen_ok]
    rfl
  · exact hK.elim

theorem zip_of_idx {α β : Type} (f : α → β) : ∀ (l : List (Nat × α)) (st : Nat), l.map (·.1) = List.range' st l.length → l.map (fun p => (p.1, f p.2)) = (List.range' st (l.map fun p => f p.2).length).zip (l.map fun p => f p.2)
  | [], _, _ => by simp
  | p :: l, st, h => by
    simp only [List.map_cons, List.length_cons, List.range'_succ, List.cons.injEq] at h
    simp only [List.map_cons, List.length_cons, List.range'_succ, List.zip_cons_cons, h.1]
    rw [zip_of_idx f l (st + 1) h.2]
theorem fill_row (z : Nat) : ∀ (vs : List Value) (k : Nat) (cells : Array Value), (∀ v ∈ vs, v.cells.size = z) → cells.size = (k + vs.length) * z →
    Instr.fill (fun i => some (i * z, z)) cells ((List.range' k vs.length).zip vs) = some (cells.toList.take (k * z) ++ (vs.map fun v => v.cells.toList).flatten).toArray
  | [], k, cells, _, hs => by
    simp at hs
    have h9 : cells.toList.take (k * z) = cells.toList := List.take_of_length_le (by simp; omega)
    simp [Instr.fill, h9]
  | v :: vs, k, cells, hv, hs => by
    have hz : v.cells.size = z := hv v (by simp)
    have h1 : k * z + z + vs.length * z = cells.size := by rw [hs]; simp only [List.length_cons, Nat.add_mul]; omega
    simp only [List.length_cons, List.range'_succ, List.zip_cons_cons]
    rw [fill_cons (off := k * z) (size := z) rfl hz (by omega), fill_row z vs (k + 1) _ (fun v h => hv v (by simp [h])) (by simp [wr, hz]; rw [Nat.add_mul, Nat.add_mul]; omega)]
    congr 2
    have h2 : v.cells.toList.length = z := by simpa using hz
    rw [wr, List.take_append_of_le_length (by simp [hz]; rw [Nat.add_mul]; omega), List.take_of_length_le (by simp [hz]; rw [Nat.add_mul]; omega)]
    simp

theorem rrel_flatten {α : Type} {ok : Nat → Prop} {base : Nat} : ∀ (l : List α) (es : List (List Cel)) (f : α → List Value), es.length = l.length → (∀ (k : Nat) (p : α), l[k]? = some p → ∃ x, es[k]? = some x ∧ RRel w ok base x (f p)) → RRel w ok base es.flatten (l.map f).flatten
  | [], [], f, _, _ => .nil
  | [], _ :: _, _, h, _ => by simp at h
  | _ :: _, [], _, h, _ => by simp at h
  | p :: l, x :: es, f, hl, h => by
    obtain ⟨x', h1, h2⟩ := h 0 p rfl
    simp only [List.getElem?_cons_zero, Option.some.injEq] at h1; subst h1
    simp only [List.flatten_cons, List.map_cons]
    exact h2.append (rrel_flatten l es f (by simpa using hl) (fun k p hp => by simpa using h (k + 1) p (by simpa using hp)))

theorem s_bslice (h : St w0 okA ext N s a w E) {t e : TypeId} {i : TypeInfo} {len : Nat} {parts : Array (Nat × Operand)} {ps : List Opd} (hu : P.underlying t = some (.slice e)) (hi : P.info? e = some i) (hps : parts.toList.mapM (fun p => opd p.2) = some ps)
    (hidx : parts.toList.map (·.1) = List.range len) (hz0 : 0 < i.size) (hsm : len * i.size ≤ 16777216) (hl0 : 0 < len) (hzero : (i.zero.map (·.cells.size)) = some i.size)
    (ho : o.op = .buildSlice t len parts) (hd : ∀ k, o.dst = some k → k < N) (hK : SGood (estep o.dst (.bslice i.size len ps) s) (Serves w0 okA ext N K)) : o.wp P a w K Q := by
  simp only [estep] at hK
  split at hK
  · rename_i es hes
    split at hK
    · rename_i hcond
      simp only [Bool.and_eq_true, List.all_eq_true, decide_eq_true_eq] at hcond
      obtain ⟨hall, hlen⟩ := hcond
      have hplen : parts.toList.length = len := by have := mapM_len hps; omega
      have heslen : es.length = len := by have := mapM_len hes; omega
      -- each part's cells
      have hpart : ∀ (k : Nat) (p : Nat × Operand), parts.toList[k]? = some p → ∃ x : List Cel, es[k]? = some x ∧ RRel w (okE w0 okA E) w0.heap.size x (a.eval p.2).cells.toList ∧ x.length = i.size := fun k p hp => by
        have h1 := mapM_at hps hp
        have hk : k < ps.length := by have := (List.getElem?_eq_some_iff.1 hp).1; have := mapM_len hps; omega
        have h2 : ps[k]? = some ps[k] := List.getElem?_eq_getElem hk
        have h3 := mapM_at hes h2
        have hk' : k < es.length := by have := mapM_len hes; omega
        have h4 : es[k]? = some es[k] := List.getElem?_eq_getElem hk'
        rw [h4] at h3
        have h5 := (ev_rel h (h1.symm.trans h2)).cells h3.symm
        have h6 := hall es[k] (List.getElem_mem _)
        exact ⟨es[k], h4, RRel.of h5 h6.2, h6.1⟩
      have hrow : rowOk i.size es := fun x hx => by
        obtain ⟨k, hk⟩ := List.getElem?_of_mem hx
        have hlt : k < parts.toList.length := by have := (List.getElem?_eq_some_iff.1 hk).1; omega
        obtain ⟨x', h1, _, h2⟩ := hpart k _ (List.getElem?_eq_getElem hlt)
        rw [hk] at h1; injection h1 with h1; subst h1
        exact h2
      generalize hvs : (parts.toList.map fun p => (a.eval p.2).cells.toList).flatten = vs
      have hrel0 : RRel w (okE w0 okA E) w0.heap.size es.flatten vs := by
        subst hvs
        exact rrel_flatten parts.toList es (fun p => (a.eval p.2).cells.toList) (by omega) (fun k p hp => by obtain ⟨x, h1, h2, _⟩ := hpart k p hp; exact ⟨x, h1, h2⟩)
      obtain ⟨zv, hzv, hzs⟩ : ∃ zv, i.zero = some zv ∧ zv.cells.size = i.size := by
        cases hzz : i.zero with
        | none => rw [hzz] at hzero; cases hzero
        | some zv => rw [hzz] at hzero; exact ⟨zv, rfl, by simpa using hzero⟩
      have hzip : (parts.map fun (p : Nat × Operand) => (p.1, a.eval p.2)).toList = (List.range' 0 (parts.toList.map fun p => a.eval p.2).length).zip (parts.toList.map fun p => a.eval p.2) := by
        rw [Array.toList_map]
        exact zip_of_idx a.eval parts.toList 0 (by rw [hidx, hplen, List.range_eq_range'])
      have hfill := fill_row i.size (parts.toList.map fun p => a.eval p.2) 0 ((Array.range (len * i.size)).map (zv.cells[· % zv.cells.size]!)) (fun v hv => by
        simp only [List.mem_map] at hv
        obtain ⟨p, hp, rfl⟩ := hv
        obtain ⟨k, hk⟩ := List.getElem?_of_mem hp
        obtain ⟨x, _, h2, h3⟩ := hpart k p hk
        have := h2.1; simp at this; omega) (by simp [hplen])
      rw [← hzip] at hfill
      simp only [Nat.zero_mul, List.take_zero, List.nil_append, List.map_map] at hfill
      have hrun : (execOp a.eval o).run P w = .ok (.value (.slice (some ⟨w.heap.size, 0, none⟩) len len)) (w.alloc (.cells vs.toArray e)) := by
        have h3 : ((fun v : Value => v.cells.toList) ∘ fun p : Nat × Operand => a.eval p.2) = fun p => (a.eval p.2).cells.toList := rfl
        rw [h3, hvs] at hfill
        have h4 : ¬ (len * i.size > 2 ^ 24) := by simp; omega
        have h5 : ¬ (len * i.size = 0) := by
          intro h0; rcases Nat.mul_eq_zero.1 h0 with h | h <;> omega
        simp only [execOp, ho]
        rw [Array.toList_map] at hfill
        have h6 : ¬ (2 ^ 24 < len * i.size) := h4
        simp [Instr.buildSlice, run_underlying hu, sizeOf, typeInfo, hi, zeroValue, hzv, newRow, newObj]
        rw [if_neg (by simpa using h6), if_neg h5, hfill]
        simp [Sem.run]
      have hgr : w.grownBy (w.alloc (.cells vs.toArray e)) none := World.grownBy_alloc w _ _
      have hst := h.grown hgr
      refine wp_value hrun (hK _ _ E (hst.put (.one ?_) hd))
      have hvl : vs.length = len * i.size := by rw [← hrel0.1, flatten_len hrow, heslen]
      have hrel1 : RRel (w.alloc (.cells vs.toArray e)) (okE w0 okA E) w0.heap.size es.flatten vs := hrel0.move (.of_grown hgr) (fun _ _ h => h) (Nat.le_refl _)
      have hown : (w.alloc (.cells vs.toArray e)).ownsRow 0 e i.size (.slice (some ⟨w.heap.size, 0, none⟩) len len) len vs :=
        ⟨hvl, .inr ⟨w.heap.size, len, vs.toArray, rfl, Nat.zero_le _, heap_alloc_new w _, Nat.le_refl _, by simp only [maxLen]; have : len ≤ len * i.size := Nat.le_mul_of_pos_right _ hz0; omega, by simpa using hvl, by rw [← hvl]; simp⟩⟩
      exact (row_sl hrow hown heslen.symm hrel1 (fun b hb => by
        simp only [blkV, Value.ownBlock, Option.some.injEq] at hb; subst hb
        exact ⟨h.frame.size, fun k hk => by have := h.glt hk; omega, fun k ver z u hk hb => by have := h.rlt hk hb; omega, .inl h.frame.size⟩)).toC
    · exact hK.elim
  · exact hK.elim
end
end Go.Ai

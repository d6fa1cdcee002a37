/-
  The abstract layer: maps that the call itself has made.
-/
import Derived.Test.YtggbcgldnjmobaaDoorAiOps6
import Derived.MapKept
namespace Go.Ai
open Go
set_option linter.unusedSimpArgs false
set_option linter.unusedVariables false

theorem kcode_inj {a b : IntKind} (h : kcode a = kcode b) : a = b := by
  cases a <;> cases b <;> first | rfl | (exact absurd h (by decide))
theorem kcode_pos (a : IntKind) : kcode a ≠ 0 := by cases a <;> decide
/-- The type of keys of a kind. -/
def keyT (c : Nat) : TypeDesc → Prop
  | .string => c = 0
  | .int q => c = kcode q
  | _ => False
theorem map_of {P : Program} {t : TypeId} {p : Nat × TypeId} (h : mapOf P t = some p) : ∃ kt d, P.underlying t = some (.map kt p.2) ∧ P.underlying kt = some d ∧ keyT p.1 d := by
  unfold mapOf at h
  split at h
  · rename_i kt et hu
    simp only [Option.map_eq_some_iff] at h
    obtain ⟨c, hc, rfl⟩ := h
    unfold keyC at hc
    split at hc
    · rename_i hk; simp only [Option.some.injEq] at hc; subst hc; exact ⟨kt, _, hu, hk, rfl⟩
    · rename_i q hk; simp only [Option.some.injEq] at hc; subst hc; exact ⟨kt, _, hu, hk, rfl⟩
    · cases hc
  · cases h
theorem keyOk_inv {c : Nat} {k : Value} (h : keyOk c k = true) : (∃ s, k = .string s ∧ c = 0) ∨ ∃ q n, k = .int q n ∧ c = kcode q := by
  cases k <;> simp [keyOk] at h
  · exact .inr ⟨_, _, rfl, h⟩
  · exact .inl ⟨_, rfl, h⟩
theorem key_one {c : Nat} {k : Value} (h : keyOk c k = true) : k.oneCell' = true := by
  rcases keyOk_inv h with ⟨s, rfl, _⟩ | ⟨q, n, rfl, _⟩ <;> rfl
theorem isKey_of {c : Nat} {d : TypeDesc} {k : Value} (hd : keyT c d) (h : keyOk c k = true) : MapKept.IsKey d k := by
  rcases keyOk_inv h with ⟨s, rfl, rfl⟩ | ⟨q, n, rfl, rfl⟩
  · cases d <;> simp only [keyT] at hd
    · exact absurd hd.symm (kcode_pos _)
    · trivial
  · cases d <;> simp only [keyT] at hd
    · exact kcode_inj hd
    · exact absurd hd (kcode_pos _)
theorem keyEq_iff {c : Nat} {a b : Value} (ha : keyOk c a = true) (hb : keyOk c b = true) : keyEq a b = true ↔ a = b := by
  rcases keyOk_inv ha with ⟨s, rfl, rfl⟩ | ⟨q, n, rfl, rfl⟩ <;> rcases keyOk_inv hb with ⟨s', rfl, h'⟩ | ⟨q', n', rfl, h'⟩
  · simp [keyEq, MapKept.bytes_beq]
  · exact absurd h'.symm (kcode_pos _)
  · exact absurd h' (kcode_pos _)
  · have := kcode_inj h'; subst this
    simp [keyEq]
theorem same_key {c : Nat} {d : TypeDesc} {a b : Value} (hd : keyT c d) (ha : keyOk c a = true) (hb : keyOk c b = true) : Instr.sameNow d a b = some (keyEq a b) := by
  obtain ⟨r, h1, h2⟩ := MapKept.sameNow_of_keys (isKey_of hd ha) (isKey_of hd hb)
  rw [h1]
  have h3 := keyEq_iff ha hb
  cases r <;> cases hk : keyEq a b <;> simp_all

/-- Entries, cell by cell. -/
def mRel (w : World) (ok : Nat → Prop) (base c : Nat) : List (List Cel) → List MapEntry → Prop
  | [], [] => True
  | e :: es, x :: l => (∃ cv, e = [.g x.key, cv] ∧ keyOk c x.key = true ∧ cv.isD = true ∧ CRel0 w ok base Env.none cv x.val) ∧ mRel w ok base c es l
  | _, _ => False

section
variable {w : World} {ok : Nat → Prop} {base c : Nat}
theorem mRel_of : ∀ {es : List (List Cel)} {l : List MapEntry}, mapOk es → l.length = es.length → (∀ x ∈ l, keyOk c x.key = true) → RRel w ok base es.flatten (l.map fun x => [x.key, x.val]).flatten → mRel w ok base c es l
  | [], [], _, _, _, _ => trivial
  | [], x :: l, _, h, _, _ => by simp at h
  | e :: es, [], _, h, _, _ => by simp at h
  | e :: es, x :: l, hm, hl, hk, hr => by
    obtain ⟨k, cv, rfl⟩ := hm e (by simp)
    have h0 := hr.2 0 (.g k) x.key (by simp) (by simp)
    have h1 := hr.2 1 cv x.val (by simp) (by simp)
    obtain ⟨h2, _⟩ : x.key = k ∧ k.oneCell' = true := h0.2
    refine ⟨⟨cv, by rw [h2], hk x (by simp), h1⟩, mRel_of (fun e he => hm e (by simp [he])) (by simpa using hl) (fun y hy => hk y (by simp [hy])) ?_⟩
    have h3 := hr.drop 2
    simpa using h3
theorem mRel_to : ∀ {es : List (List Cel)} {l : List MapEntry}, mRel w ok base c es l → mapOk es ∧ l.length = es.length ∧ (∀ x ∈ l, keyOk c x.key = true) ∧ RRel w ok base es.flatten (l.map fun x => [x.key, x.val]).flatten
  | [], [], _ => ⟨fun e he => by simp at he, rfl, fun x hx => by simp at hx, .nil⟩
  | [], x :: l, h => h.elim
  | e :: es, [], h => h.elim
  | e :: es, x :: l, h => by
    obtain ⟨⟨cv, rfl, h1, h2, h3⟩, h4⟩ := h
    obtain ⟨i1, i2, i3, i4⟩ := mRel_to h4
    refine ⟨fun e he => ?_, by simp [i2], fun y hy => ?_, ?_⟩
    · rcases List.mem_cons.1 he with rfl | he
      · exact ⟨_, _, rfl⟩
      · exact i1 e he
    · rcases List.mem_cons.1 hy with rfl | hy
      · exact h1
      · exact i3 y hy
    · simp only [List.flatten_cons, List.map_cons]
      refine RRel.append ⟨rfl, fun i c0 u hc hu => ?_⟩ i4
      match i with
      | 0 => simp at hc hu; subst hc; subst hu; exact ⟨rfl, rfl, key_one h1⟩
      | 1 => simp at hc hu; subst hc; subst hu; exact ⟨h2, h3⟩
      | i + 2 => simp at hc
/-- Where a key is, and what becomes of the entries when it is laid. -/
theorem find_rel {d : TypeDesc} {k : Value} (hd : keyT c d) (hk : keyOk c k = true) : ∀ {es : List (List Cel)} {l : List MapEntry}, mRel w ok base c es l → ∀ i : Nat,
    (Instr.findNow d k l i = some none ∧ mget k es = none ∧ ∀ cv v b, cv.isD = true → CRel0 w ok base Env.none cv v → mRel w ok base c (mput k cv es) (l ++ [⟨k, v, b⟩])) ∨
    (∃ j x c0, Instr.findNow d k l i = some (some (i + j, x.val)) ∧ l[j]? = some x ∧ x.key = k ∧ mget k es = some c0 ∧ c0.isD = true ∧ CRel0 w ok base Env.none c0 x.val ∧
      ∀ cv v, cv.isD = true → CRel0 w ok base Env.none cv v → mRel w ok base c (mput k cv es) (l.modify j fun y => { y with key := k, val := v }))
  | [], [], _, i => .inl ⟨rfl, rfl, fun cv v b h1 h2 => ⟨⟨cv, rfl, hk, h1, h2⟩, trivial⟩⟩
  | [], x :: l, h, _ => h.elim
  | e :: es, [], h, _ => h.elim
  | e :: es, x :: l, h, i => by
    obtain ⟨⟨cv, rfl, h1, h2, h3⟩, h4⟩ := h
    have hs := same_key hd hk h1
    cases hq : keyEq k x.key with
    | true =>
      rw [hq] at hs
      have he : k = x.key := (keyEq_iff hk h1).1 hq
      refine .inr ⟨0, x, cv, by simp [Instr.findNow, hs], rfl, he.symm, by simp [mget, mkey, hq], h2, h3, fun cv' v h5 h6 => ?_⟩
      simp only [mput, mkey, hq, if_true, List.modify_zero_cons]
      exact ⟨⟨cv', rfl, hk, h5, h6⟩, h4⟩
    | false =>
      rw [hq] at hs
      rcases find_rel hd hk h4 (i + 1) with ⟨i1, i2, i3⟩ | ⟨j, x', c0, i1, i2, i3, i4, i5, i6, i7⟩
      · refine .inl ⟨by simp [Instr.findNow, hs, i1], by simp [mget, mkey, hq, i2], fun cv' v b h5 h6 => ?_⟩
        simp only [mput, mkey, hq, List.cons_append]
        exact ⟨⟨cv, rfl, h1, h2, h3⟩, i3 cv' v b h5 h6⟩
      · refine .inr ⟨j + 1, x', c0, by simp [Instr.findNow, hs, i1]; omega, by simpa using i2, i3, by simp [mget, mkey, hq, i4], i5, i6, fun cv' v h5 h6 => ?_⟩
        simp only [mput, mkey, hq, List.modify_succ_cons]
        exact ⟨⟨cv, rfl, h1, h2, h3⟩, i7 cv' v h5 h6⟩
end

section
variable {P : Program} {w0 w w' : World} {okA : Nat → Prop} {ext : Ext} {N : Nat} {s : AS} {a : Act} {E : Env} {o : Oper} {K : Act → World → Prop} {Q : Exit → Act → World → Prop}

theorem s_mkm (h : St w0 okA ext N s a w E) {t : TypeId} {r : Option Operand} {kc : Nat} {kt et : TypeId} (hu : P.underlying t = some (.map kt et)) (hr : r = none ∨ ∃ q n, r = some (.const (.int q n)))
    (ho : o.op = .makeMap t r) (hd : ∀ k, o.dst = some k → k < N) (hK : SGood (estep o.dst (.mkm kc) s) (Serves w0 okA ext N K)) : o.wp P a w K Q := by
  cases hdst : o.dst with
  | none => rw [hdst] at hK; simp only [estep] at hK; exact hK.elim
  | some k =>
    rw [hdst] at hK
    simp only [estep] at hK
    split at hK
    · rename_i hs
      split at hK
      · have hst := h.newG (w1 := w.alloc (.map #[] 0)) (World.grownBy_alloc w _ none) (k := k) (r := ⟨0, kc, 0, []⟩) (u := .map (some w.heap.size)) (c := .mp k) (vs := []) hs (hd k hdst) rfl ⟨fun h0 => by simp only at h0; omega, fun _ e he => by simp at he⟩ rfl
          (fun E' ok base he => ⟨rfl, 0, _, he, rfl⟩) (.inr ⟨rfl, w.heap.size, #[], 0, rfl, Nat.zero_le _, (MapKept.heap_alloc w _).1, rfl, rfl, fun e he => by simp at he⟩) .nil
        refine wp_value (v := .map (some w.heap.size)) (w' := w.alloc (.map #[] 0)) ?_ (by rw [hdst]; exact hK _ _ _ hst)
        rcases hr with rfl | ⟨q, n, rfl⟩
        · simp [execOp, ho, Instr.makeMap, Result.andThen]
        · simp [execOp, ho, Instr.makeMap, run_underlying hu, Act.eval, asInt, asIntOf, Result.andThen]
      · exact hK.elim
    · exact hK.elim

/-- The map in a slot. -/
theorem map_at (h : St w0 okA ext N s a w E) {x : Operand} {y : Opd} {k : Nat} {r : Row} (hx : opd x = some y) (hv : s.ev y = .one (.mp k)) (hs : s.rw k = some r) :
    ∃ b es clock, r.z = 0 ∧ a.eval x = .map (some b) ∧ E.rm k = some (r.ver, r.z, .map (some b)) ∧ r.ver = 0 ∧ w.heap[b]? = some (.map es clock) ∧ mRel w (okE w0 okA E) w0.heap.size r.E r.es es.toList := by
  obtain ⟨_, ver', u, hm, hxu⟩ := one_c (ev_rel h hx) hv
  obtain ⟨h1, h2, u', vs, hm', hown, hrel⟩ := h.rw k r hs
  rw [hm] at hm'
  simp only [Option.some.injEq, Prod.mk.injEq] at hm'
  obtain ⟨rfl, hz, rfl⟩ := hm'
  rcases hown with ⟨h0, _⟩ | ⟨_, b, es, clock, rfl, _, hb, hsz, rfl, hkeys⟩
  · omega
  · exact ⟨b, es, clock, hz.symm, hxu, by rw [hm, ← hz], h1 hz.symm, hb, mRel_of (h2.2 hz.symm) (by simpa using hsz) hkeys hrel⟩

theorem s_mup (h : St w0 okA ext N s a w E) {t kt et : TypeId} {d : TypeDesc} {x kx vx : Operand} {y ky vy : Opd} {kc : Nat} (hx : opd x = some y) (hkx : opd kx = some ky) (hvx : opd vx = some vy)
    (hu : P.underlying t = some (.map kt et)) (hud : P.underlying kt = some d) (hd0 : keyT kc d)
    (ho : o.op = .mapUpdate t x kx vx ∨ o.op = .insert t x kx vx) (hd : ∀ k, o.dst = some k → k < N) (hK : SGood (estep o.dst (.mup kc y ky vy) s) (Serves w0 okA ext N K)) : o.wp P a w K Q := by
  simp only [estep] at hK
  split at hK
  · rename_i k kv c hv hkv hcv
    split at hK
    · rename_i r hs
      split at hK
      · rename_i hcond
        obtain ⟨hz, hE, hkey, hD⟩ := hcond
        obtain ⟨b, es, clock, _, hxe, hm, hver, hb, hmr⟩ := map_at h hx hv hs
        have hke := one_g (ev_rel h hkx) hkv
        have hve := one_c (ev_rel h hvx) hcv
        have hve' : CRel0 w (okE w0 okA E) w0.heap.size Env.none c (a.eval vx) := hve.ofD hD
        rw [hE] at hmr
        have hlt : b < w.heap.size := (Array.getElem?_eq_some_iff.1 hb).1
        have hrun : ∃ es' clock', (Instr.mapUpdate t (.map (some b)) kv (a.eval vx)).run P w = .ok () { w with heap := w.heap.setIfInBounds b (.map es' clock') } ∧ mRel w (okE w0 okA E) w0.heap.size kc (mput kv c r.es) es'.toList := by
          rcases find_rel hd0 hkey hmr 0 with ⟨i1, i2, i3⟩ | ⟨j, x', c0, i1, i2, i3, i4, i5, i6, i7⟩
          · refine ⟨es.push ⟨kv, a.eval vx, clock⟩, clock + 1, ?_, by simpa using i3 c (a.eval vx) clock hD hve'⟩
            simp [Instr.mapUpdate, run_underlying hu, MapKept.run_getObj_map hb, MapKept.run_checkKey hud (isKey_of hd0 hkey), MapKept.run_findKey hud i1, MapKept.run_setObj_map _ hb, Result.andThen]
          · have hj : es[j]? = some x' := by simpa using i2
            refine ⟨es.modify j fun e => { e with key := kv, val := a.eval vx }, clock, ?_, by simpa using i7 c (a.eval vx) hD hve'⟩
            simp [Instr.mapUpdate, run_underlying hu, MapKept.run_getObj_map hb, MapKept.run_checkKey hud (isKey_of hd0 hkey), MapKept.run_findKey hud i1, hj, i3, MapKept.run_keyThatStays (isKey_of hd0 hkey), MapKept.run_setObj_map _ hb, Result.andThen]
        obtain ⟨es', clock', hrun, hmr'⟩ := hrun
        have hgr : w.grownBy { w with heap := w.heap.setIfInBounds b (.map es' clock') } (some b) := ⟨rfl, rfl, rfl, by simp, fun i _ hi => (MapKept.heap_set hb).2 i (fun e => hi (by rw [e]))⟩
        obtain ⟨j1, j2, j3, j4⟩ := mRel_to hmr'
        have hst := h.rowTurnG (w' := { w with heap := w.heap.setIfInBounds b (.map es' clock') }) (r' := { r with es := mput kv c r.es }) (u' := .map (some b)) (vs' := (es'.toList.map fun e => [e.key, e.val]).flatten) hs hm rfl (Nat.le_refl _) (fun _ => hver) (fun _ => rfl)
          ⟨fun h0 => by simp only at h0; omega, fun _ => j1⟩ hgr (.inr ⟨hz, b, es', clock', rfl, Nat.zero_le _, (MapKept.heap_set hb).1, by simpa using j2, rfl, by simp only [hE]; exact j3⟩) j4 (.inl rfl)
        refine wp_skip_ (w' := { w with heap := w.heap.setIfInBounds b (.map es' clock') }) ?_ (hK _ _ _ (hst.put .any hd))
        rcases ho with ho | ho <;> simp [execOp, ho, hxe, hke, hrun, Result.andThen]
      · exact hK.elim
    · exact hK.elim
  · exact hK.elim

theorem zeroOne_run {t : TypeId} {z : Value} (h : zeroOne P t = some z) : (zeroValue t).run P w = .ok z w ∧ z.oneCell' = true := by
  unfold zeroOne at h
  split at h
  · rename_i i hi
    split at h
    · rename_i v hv
      split at h
      · rename_i hone; simp only [Option.some.injEq] at h; subst h
        exact ⟨by simp [zeroValue, typeInfo, hi, hv, Result.andThen], hone⟩
      · cases h
    · cases h
  · cases h

theorem s_mlk (h : St w0 okA ext N s a w E) {t kt et : TypeId} {d : TypeDesc} {x kx : Operand} {y ky : Opd} {kc : Nat} {ok : Bool} {z : Value} (hx : opd x = some y) (hkx : opd kx = some ky)
    (hu : P.underlying t = some (.map kt et)) (hud : P.underlying kt = some d) (hd0 : keyT kc d) (hz1 : zeroOne P et = some z)
    (ho : o.op = .lookup t x kx ok) (hd : ∀ k, o.dst = some k → k < N) (hK : SGood (estep o.dst (.mlk kc z ok y ky) s) (Serves w0 okA ext N K)) : o.wp P a w K Q := by
  simp only [estep] at hK
  split at hK
  · rename_i k kv hv hkv
    split at hK
    · rename_i r hs
      split at hK
      · rename_i hcond
        obtain ⟨hz, hE, hkey⟩ := hcond
        obtain ⟨b, es, clock, _, hxe, hm, hver, hb, hmr⟩ := map_at h hx hv hs
        have hke := one_g (ev_rel h hkx) hkv
        obtain ⟨hzr, hzo⟩ := zeroOne_run (w := w) hz1
        rw [hE] at hmr
        have hrun : ∃ v, (Instr.lookup t (.map (some b)) kv ok).run P w = .ok (if ok then .tuple #[v, .bool (mget kv r.es).isSome] else v) w ∧ CRel0 w (okE w0 okA E) w0.heap.size E ((mget kv r.es).getD (.g z)) v := by
          rcases find_rel hd0 hkey hmr 0 with ⟨i1, i2, _⟩ | ⟨j, x', c0, i1, i2, i3, i4, i5, i6, _⟩
          · refine ⟨z, ?_, by rw [i2]; exact ⟨rfl, hzo⟩⟩
            cases ok <;> simp [Instr.lookup, run_underlying hu, MapKept.run_getObj_map hb, MapKept.run_checkKey hud (isKey_of hd0 hkey), MapKept.run_findKey hud i1, hzr, i2, Result.andThen]
          · refine ⟨x'.val, ?_, by rw [i4]; exact i6.ofD i5⟩
            cases ok <;> simp [Instr.lookup, run_underlying hu, MapKept.run_getObj_map hb, MapKept.run_checkKey hud (isKey_of hd0 hkey), MapKept.run_findKey hud i1, i4, Result.andThen]
        obtain ⟨v, hrun, hrel⟩ := hrun
        refine wp_value (v := if ok then .tuple #[v, .bool (mget kv r.es).isSome] else v) (w' := w) ?_ (hK _ _ E (h.put ?_ hd))
        · simp [execOp, ho, hxe, hke, hrun, Result.andThen]
        · cases ok with
          | false => exact .one hrel.toC
          | true =>
            refine .tu (us := [v, .bool (mget kv r.es).isSome]) rfl fun i x u h1 h2 => ?_
            match i with
            | 0 => simp at h1 h2; subst h1; subst h2; exact .one hrel.toC
            | 1 => simp at h1 h2; subst h1; subst h2; exact .one ⟨rfl, rfl⟩
            | i + 2 => simp at h1
      · exact hK.elim
    · exact hK.elim
  · exact hK.elim
end
end Go.Ai

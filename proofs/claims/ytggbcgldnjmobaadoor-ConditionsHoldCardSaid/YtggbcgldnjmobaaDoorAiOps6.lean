/-
  The abstract layer: a row's suffix, a row cut short, a suffix that is cleared, a row that is made.
-/
import Derived.Test.YtggbcgldnjmobaaDoorAiOps5
import Derived.Laws.OwnMore
namespace Go.Ai
open Go
set_option linter.unusedSimpArgs false
set_option linter.unusedVariables false

theorem made_flat (cells : Array Value) (n z : Nat) (hz : cells.size = z) (hz0 : 0 < z) : ((Array.range (n * z)).map fun i => cells[i % cells.size]!).toList = (List.replicate n cells.toList).flatten := by
  apply List.ext_getElem?
  intro j
  have hro : ∀ e ∈ List.replicate n cells.toList, e.length = z := fun e he => by rw [List.eq_of_mem_replicate he]; simpa using hz
  by_cases hj : j < n * z
  · have hi : j / z < n := (Nat.div_lt_iff_lt_mul hz0).2 hj
    have hk : j % z < z := Nat.mod_lt _ hz0
    have h1 : (List.replicate n cells.toList)[j / z]? = some cells.toList := by simp [hi]
    have h2 : cells.toList[j % z]? = some (cells[j % z]'(by omega)) := by simp [show j % z < cells.size by omega]
    have h3 : j / z * z + j % z = j := by rw [Nat.mul_comm]; exact Nat.div_add_mod j z
    have h4 : (List.replicate n cells.toList).flatten[j / z * z + j % z]? = some (cells[j % z]'(by omega)) := flatten_at' hro h1 h2
    rw [h3] at h4
    rw [h4]
    have h5 : j % z < cells.size := by omega
    simp [hj, hz, getElem!_pos cells (j % z) h5]
  · rw [List.getElem?_eq_none (by simpa using hj), List.getElem?_eq_none (by rw [flatten_len hro]; simpa using hj)]
where flatten_at' {α : Type} {z : Nat} : ∀ {es : List (List α)}, (∀ e ∈ es, e.length = z) → ∀ {i j : Nat} {e : List α} {x : α}, es[i]? = some e → e[j]? = some x → es.flatten[i * z + j]? = some x
  | [], _, i, j, e, x, he, _ => by simp at he
  | e0 :: es, hz, 0, j, e, x, he, hx => by
    simp at he; subst he
    have hlt : j < e0.length := (List.getElem?_eq_some_iff.1 hx).1
    rw [List.flatten_cons, Nat.zero_mul, Nat.zero_add, List.getElem?_append, if_pos hlt]; exact hx
  | e0 :: es, hz, i + 1, j, e, x, he, hx => by
    simp at he
    have h0 : e0.length = z := hz e0 (by simp)
    have ih := flatten_at' (es := es) (fun e h => hz e (by simp [h])) he hx
    have hge : ¬ (i + 1) * z + j < e0.length := by rw [h0, Nat.add_mul]; omega
    rw [List.flatten_cons, List.getElem?_append, if_neg hge, h0]
    rw [show (i + 1) * z + j - z = i * z + j by rw [Nat.add_mul]; omega]
    exact ih

section
variable {P : Program} {w0 w w' : World} {okA : Nat → Prop} {ext : Ext} {N : Nat} {s : AS} {a : Act} {E : Env} {o : Oper} {K : Act → World → Prop} {Q : Exit → Act → World → Prop}

theorem zero_rel {zero : List Value} (h : ∀ u ∈ zero, u.oneCell' = true) {ok : Nat → Prop} {base : Nat} : ∀ n : Nat, RRel w ok base (List.replicate n (zero.map Cel.g)).flatten (List.replicate n zero).flatten
  | 0 => .nil
  | n + 1 => by
    simp only [List.replicate_succ, List.flatten_cons]
    exact (RRel.of (CsRel.gs (E := Env.none) zero h) (fun c hc => by obtain ⟨v, _, rfl⟩ := List.mem_map.1 hc; rfl)).append (zero_rel h n)

theorem s_sfx (h : St w0 okA ext N s a w E) {t e : TypeId} {i : TypeInfo} {x l : Operand} {y m : Opd} (hx : opd x = some y) (hl : opd l = some m) (hu : P.underlying t = some (.slice e)) (hi : P.info? e = some i)
    (ho : o.op = .slice t x (some l) none none) (hd : ∀ k, o.dst = some k → k < N) (hK : SGood (estep o.dst (.sfx i.size y m) s) (Serves w0 okA ext N K)) : o.wp P a w K Q := by
  simp only [estep] at hK
  have hr := ev_rel h hx
  have hrl := ev_rel h hl
  split at hK
  · rename_i k ver k' lo hv hvl
    split at hK
    · rename_i r hs
      split at hK
      · rename_i hcond
        obtain ⟨hver, hz⟩ := hcond
        obtain ⟨⟨h0, h1, h2⟩, hK⟩ := hK
        have el := one_g hrl hvl
        obtain ⟨_, ver', z, u, hm, hle, hu', hzp⟩ := one_c hr hv
        obtain ⟨_, _, u', vs, hm', hown, _⟩ := h.rwS hs (h.zpos hs hm hzp)
        have hm2 := hm
        rw [hm] at hm'
        simp only [Option.some.injEq, Prod.mk.injEq] at hm'
        obtain ⟨rfl, rfl, rfl⟩ := hm'
        have hx1 := hu' hver
        rcases hown.2 with ⟨_, h3⟩ | ⟨g, cap, cur, rfl, _, _, hnc, _⟩
        · omega
        · have e1 : lo.toNat ≤ r.es.length := by omega
          have hrun := run_slice_own (P := P) hu hi (a.eval x) (some (a.eval l)) none hx1 hnc (l := lo.toNat) (h := r.es.length) (.inr ⟨k', lo, by rw [el], h0, rfl⟩) (.inl ⟨rfl, rfl⟩) e1 (Nat.le_refl _) w
          refine wp_value (v := .slice (if cap = lo.toNat then some ⟨g, 0, none⟩ else (some (⟨g, 0, none⟩ : Addr)).map (·.add (lo.toNat * i.size))) (r.es.length - lo.toNat) (cap - lo.toNat)) (w' := w) ?_ (hK _ _ E (h.put (.one ?_) hd))
          · simp only [execOp, ho, Option.map_none, Option.map_some, Sem.run_bind, hrun]
            rfl
          · split
            · rename_i hcap
              exact ⟨rfl, r.ver, r.z, _, hm2, hle, fun _ => ⟨g, _, cap, _, rfl, e1, rfl, fun hlt => by omega⟩, hzp⟩
            · refine ⟨rfl, r.ver, r.z, _, hm2, hle, fun _ => ⟨g, _, cap, _, rfl, e1, rfl, fun _ => ?_⟩, hzp⟩
              show (Addr.mk g 0 none).add (lo.toNat * i.size) = _
              rw [add_none, Nat.zero_add, hz]
      · exact hK.elim
    · exact hK.elim
  · exact hK.elim

theorem s_trn (h : St w0 okA ext N s a w E) {t e : TypeId} {i : TypeInfo} {x l : Operand} {y m : Opd} (hx : opd x = some y) (hl : opd l = some m) (hu : P.underlying t = some (.slice e)) (hi : P.info? e = some i)
    (ho : o.op = .slice t x none (some l) none) (hd : ∀ k, o.dst = some k → k < N) (hK : SGood (estep o.dst (.trn i.size y m) s) (Serves w0 okA ext N K)) : o.wp P a w K Q := by
  simp only [estep] at hK
  have hr := ev_rel h hx
  have hrl := ev_rel h hl
  split at hK
  · rename_i k ver k' hh hv hvl
    split at hK
    · rename_i r hs
      split at hK
      · rename_i hcond
        obtain ⟨hver, hz⟩ := hcond
        obtain ⟨⟨h0, h1, h2⟩, hK⟩ := hK
        have el := one_g hrl hvl
        obtain ⟨_, ver', z, u, hm, hle, hu', hzp⟩ := one_c hr hv
        obtain ⟨hz0, hrow, u', vs, hm', hown, hrel⟩ := h.rwS hs (h.zpos hs hm hzp)
        have hm2 := hm
        rw [hm] at hm'
        simp only [Option.some.injEq, Prod.mk.injEq] at hm'
        obtain ⟨rfl, rfl, rfl⟩ := hm'
        have hx1 := hu' hver
        have hown' := hown
        rcases hown.2 with ⟨_, h3⟩ | ⟨g, cap, cur, rfl, hb, hcell, hnc, hcm, hcs, htake⟩
        · omega
        · have e1 : hh.toNat ≤ r.es.length := by omega
          have hrun := run_slice_own (P := P) hu hi (a.eval x) none (some (a.eval l)) hx1 hnc (l := 0) (h := hh.toNat) (.inl ⟨rfl, rfl⟩) (.inr ⟨k', hh, by rw [el], h0, rfl⟩) (Nat.zero_le _) e1 w
          have hval : (if cap = 0 then some (⟨g, 0, none⟩ : Addr) else (some (⟨g, 0, none⟩ : Addr)).map (·.add (0 * i.size))) = some ⟨g, 0, none⟩ := by
            split <;> simp [Addr.add]
          have hfl : (r.es.take hh.toNat).flatten = r.es.flatten.take (hh.toNat * r.z) := by
            have h5 : r.es.flatten = (r.es.take hh.toNat).flatten ++ (r.es.drop hh.toNat).flatten := by rw [← List.flatten_append, List.take_append_drop]
            have h6 : (r.es.take hh.toNat).flatten.length = hh.toNat * r.z := by rw [flatten_len (fun e he => hrow e (List.mem_of_mem_take he)), List.length_take, Nat.min_eq_left (by omega)]
            rw [h5, ← h6, List.take_left']; rfl
          have hle2 : hh.toNat * r.z ≤ r.es.length * r.z := Nat.mul_le_mul_right _ e1
          have hcz : r.es.length * r.z ≤ cap * r.z := Nat.mul_le_mul_right _ hnc
          have hvl : vs.length = r.es.length * r.z := hown.1
          have hst := h.rowTurn (r' := { r with ver := r.ver + 1, es := r.es.take hh.toNat }) (u' := .slice (some ⟨g, 0, none⟩) hh.toNat cap) (vs' := vs.take (hh.toNat * r.z)) hz0 hs hm2 rfl (Nat.le_succ _) (fun h => by simp at h) (fun e he => hrow e (List.mem_of_mem_take he)) (World.grownBy.refl _ _)
            ⟨by simp only [List.length_take]; rw [Nat.min_eq_left (by omega), Nat.min_eq_left e1], .inr ⟨g, cap, cur, by simp only [List.length_take, Nat.min_eq_left e1], hb, hcell, by simp only [List.length_take]; omega, hcm, hcs, by simp only [List.length_take, Nat.min_eq_left e1]; rw [← htake, List.take_take, Nat.min_eq_left hle2]⟩⟩
            (by simp only [hfl]; exact hrel.take _) (.inl rfl)
          refine wp_value (v := .slice (some ⟨g, 0, none⟩) hh.toNat cap) (w' := w) ?_ (hK _ _ _ (hst.put (.one ⟨rfl, r.ver + 1, r.z, _, by simp [upd_same], Nat.le_refl _, fun _ => rfl, hzp⟩) hd))
          rw [hval, Nat.sub_zero, Nat.sub_zero] at hrun
          simp only [execOp, ho, Option.map_none, Option.map_some, Sem.run_bind, hrun]
          rfl
      · exact hK.elim
    · exact hK.elim
  · exact hK.elim

theorem s_clr (h : St w0 okA ext N s a w E) {t e : TypeId} {i : TypeInfo} {x : Operand} {y : Opd} {z : List Value} (hx : opd x = some y) (hu : P.underlying t = some (.slice e)) (hi : P.info? e = some i) (hz : zeroOf P e = some z) (hzl : z.length = i.size)
    (ho : o.op = .call { callee := .builtin .clear, args := #[x], argTypes := #[t] }) (hd : ∀ k, o.dst = some k → k < N) (hK : SGood (estep o.dst (.clr e i.size z y) s) (Serves w0 okA ext N K)) : o.wp P a w K Q := by
  simp only [estep] at hK
  have hr := ev_rel h hx
  obtain ⟨i', zv, hi', hzv, hzc, hone⟩ := zero_of hz
  rw [hi] at hi'; injection hi' with hi'; subst hi'
  split at hK
  · rename_i k ver lo hv
    split at hK
    · rename_i r hs
      split at hK
      · rename_i hcond
        obtain ⟨hver, hE, hzz, _⟩ := hcond
        obtain ⟨_, ver', z', u, hm, hle, hu', hzp⟩ := one_c hr hv
        obtain ⟨hz0, hrow, u', vs, hm', hown, hrel⟩ := h.rwS hs (h.zpos hs hm hzp)
        have hm2 := hm
        rw [hm] at hm'
        simp only [Option.some.injEq, Prod.mk.injEq] at hm'
        obtain ⟨rfl, rfl, rfl⟩ := hm'
        obtain ⟨g, n, c, A, hu1, hlo, hx1, hA⟩ := hu' hver
        subst hu1
        rcases hown.2 with ⟨h3, _⟩ | ⟨g', cap, cur, h3, hb, hcell, hnc, hcm, hcs, htake⟩
        · cases h3
        · simp only [Value.slice.injEq, Option.some.injEq, Addr.mk.injEq, and_true] at h3
          obtain ⟨rfl, rfl, rfl⟩ := h3
          have hvl : vs.length = r.es.length * r.z := hown.1
          have hlo' : lo ≤ r.es.length := hlo
          have hcsz : zv.cells.size = r.z := by have := congrArg List.length hzc; simp at this; omega
          by_cases hfull : r.es.length - lo = 0
          · have hes : { r with es := r.es.take lo ++ List.replicate (r.es.length - lo) (z.map Cel.g) } = r := by
              rw [hfull]; simp [List.take_of_length_le (show r.es.length ≤ lo by omega)]
            rw [hes] at hK
            have hup : upd s.rw k (some r) = s.rw := by
              funext j
              by_cases hj : j = k
              · subst hj; rw [upd_same, hs]
              · rw [upd_ne _ _ hj]
            rw [hup] at hK
            refine wp_value (v := .tuple #[]) (w' := w) ?_ (hK _ _ E (h.put .any hd))
            rw [hfull] at hx1
            simp [execOp, ho, resolve, invoke, builtin, Builtin.clear_, hx1, run_underlying hu]
          · have hlt : lo < r.es.length := by omega
            have hA' := hA hlt
            subst hA'
            have hflz : ((Array.range ((r.es.length - lo) * zv.cells.size)).map fun i => zv.cells[i % zv.cells.size]!).toList = (List.replicate (r.es.length - lo) z).flatten := by
              rw [hcsz]
              have := made_flat zv.cells (r.es.length - lo) r.z hcsz hz0
              rw [hcsz] at this; rw [this, hzc]
            have hlen : (List.replicate (r.es.length - lo) z).flatten.length = (r.es.length - lo) * r.z := by
              rw [flatten_len (z := r.z) (fun e he => by rw [List.eq_of_mem_replicate he]; omega)]; simp
            have hcz : r.es.length * r.z ≤ c * r.z := Nat.mul_le_mul_right _ hnc
            have hsum : lo * r.z + (r.es.length - lo) * r.z = r.es.length * r.z := by rw [← Nat.add_mul]; congr 1; omega
            have hst0 := run_storeCells_at (P := P) g (lo * r.z) r.E (List.replicate (r.es.length - lo) z).flatten 0 cur w hcell (by rw [hlen]; omega) (fun v hv => by
              obtain ⟨l, hl, hv'⟩ := List.mem_flatten.1 hv
              rw [List.eq_of_mem_replicate hl] at hv'; exact hone v hv')
            simp only [Nat.add_zero] at hst0
            have hgr := setRow_grown w g (cur.toList.take (lo * r.z) ++ (List.replicate (r.es.length - lo) z).flatten ++ cur.toList.drop (lo * r.z + (List.replicate (r.es.length - lo) z).flatten.length)).toArray
            have hfl : (r.es.take lo ++ List.replicate (r.es.length - lo) (z.map Cel.g)).flatten = r.es.flatten.take (lo * r.z) ++ (List.replicate (r.es.length - lo) (z.map Cel.g)).flatten := by
              rw [List.flatten_append]
              congr 1
              have h5 : r.es.flatten = (r.es.take lo).flatten ++ (r.es.drop lo).flatten := by rw [← List.flatten_append, List.take_append_drop]
              have h6 : (r.es.take lo).flatten.length = lo * r.z := by rw [flatten_len (fun e he => hrow e (List.mem_of_mem_take he)), List.length_take, Nat.min_eq_left (by omega)]
              rw [h5, ← h6, List.take_left']; rfl
            have hclen : (r.es.take lo ++ List.replicate (r.es.length - lo) (z.map Cel.g)).length = r.es.length := by simp; omega
            have hst := h.rowTurn (r' := { r with es := r.es.take lo ++ List.replicate (r.es.length - lo) (z.map Cel.g) }) (u' := .slice (some ⟨g, 0, none⟩) r.es.length c) (vs' := vs.take (lo * r.z) ++ (List.replicate (r.es.length - lo) z).flatten) hz0 hs hm2 rfl (Nat.le_refl _) (fun _ => rfl)
              (fun e he => by
                rcases List.mem_append.1 he with h6 | h6
                · exact hrow e (List.mem_of_mem_take h6)
                · rw [List.eq_of_mem_replicate h6]; simp; omega) hgr
              ⟨by simp only [hclen, List.length_append, List.length_take, hlen]; rw [Nat.min_eq_left (by omega)]; exact hsum, .inr ⟨g, c, _, by simp only [hclen], hb, setRow_heap w g cur _ _ (0, 0) hcell, by simp only [hclen]; exact hnc, hcm, by
                simp only [List.size_toArray, List.length_append, List.length_take, List.length_drop, hlen, Array.length_toList]; omega, by
                simp only [hclen]
                rw [List.append_assoc, List.take_append]
                have h7 : (cur.toList.take (lo * r.z)).length = lo * r.z := by simp; omega
                rw [List.take_of_length_le (by omega), h7]
                have h8 : r.es.length * r.z - lo * r.z = (r.es.length - lo) * r.z := by omega
                rw [h8, ← hlen, List.take_left']
                · congr 1
                  rw [← htake, List.take_take, Nat.min_eq_left (by omega)]
                · rfl⟩⟩
              (by simp only [hfl]; exact (hrel.take _).append (zero_rel hone _)) (.inl rfl)
            refine wp_value (v := .tuple #[]) (w' := _) ?_ (hK _ _ _ (hst.put .any hd))
            obtain ⟨mm, hmm⟩ : ∃ mm, r.es.length - lo = mm + 1 := ⟨r.es.length - lo - 1, by omega⟩
            have hrunc : (Builtin.clear_ #[t] o.type #[.slice (some ⟨g, lo * r.z, none⟩) (r.es.length - lo) (c - lo)]).run P w = .ok (.tuple #[]) (w.setRow g (cur.toList.take (lo * r.z) ++ (List.replicate (r.es.length - lo) z).flatten ++ cur.toList.drop (lo * r.z + (List.replicate (r.es.length - lo) z).flatten.length)).toArray) := by
              rw [hmm] at hflz hst0 ⊢
              simp only [Builtin.clear_]
              simp [run_underlying hu, zeroValue, typeInfo, hi, hzv, Builtin.zeroCells]
              have hflz' : List.map (fun i => zv.cells[i % zv.cells.size]!) (List.range ((mm + 1) * zv.cells.size)) = (List.replicate (mm + 1) z).flatten := by rw [← hflz]; simp
              rw [hflz', hst0]
              simp
            simp [execOp, ho, resolve, invoke, builtin, hx1, hrunc]
      · exact hK.elim
    · exact hK.elim
  · exact hK.elim

theorem St.newG (h : St w0 okA ext N s a w E) {w1 : World} (hgr : w.grownBy w1 none) {k : Nat} {r : Row} {u : Value} {c : Cel} {vs : List Value} (hs : s.rw k = none) (hkN : k < N) (hu : blkV u = some w.heap.size) (hro : rowOkZ r.z r.es) (hver : r.ver = 0)
    (hcell : ∀ (E' : Env) (ok : Nat → Prop) (base : Nat), E'.rm k = some (0, r.z, u) → CRel w1 ok base E' c u) (hown : owns w1 0 r.E r.z u r.es.length vs) (hrel : RRel w (okE w0 okA E) w0.heap.size r.es.flatten vs) :
    St w0 okA ext N { s with tm := upd s.tm k (.one c), rw := upd s.rw k (some r) } (a.put (some k) u) w1 ⟨E.gm, upd E.rm k (some (0, r.z, u))⟩ := by
  have hEk : E.rm k = none := h.rwn k hs
  have hkeep : Keeps (okE w0 okA E) w w1 := .of_grown hgr
  have hle : EnvLe E ⟨E.gm, upd E.rm k (some (0, r.z, u))⟩ := ⟨fun _ _ h => h, fun j ver z v hj => by
    have e : j ≠ k := by rintro rfl; rw [hEk] at hj; cases hj
    exact ⟨ver, v, by simp only [upd_ne _ _ e]; exact hj, Nat.le_refl _, fun _ => rfl⟩⟩
  have hrow : ∀ {j ver z' v}, (upd E.rm k (some (0, r.z, u))) j = some (ver, z', v) → (j = k ∧ (blkV v) = some w.heap.size) ∨ (j ≠ k ∧ E.rm j = some (ver, z', v)) := fun {j ver z' v} hj => by
    by_cases e : j = k
    · subst e; simp only [upd_same, Option.some.injEq, Prod.mk.injEq] at hj; exact .inl ⟨rfl, by rw [← hj.2.2]; exact hu⟩
    · simp only [upd_ne _ _ e] at hj; exact .inr ⟨e, hj⟩
  have hokb : ∀ b, b < w.heap.size → okE w0 okA E b → okE w0 okA ⟨E.gm, upd E.rm k (some (0, r.z, u))⟩ b := fun b hb ho =>
    ⟨ho.1, fun j ver z' v hj => by
      rcases hrow hj with ⟨_, h1⟩ | ⟨_, h1⟩
      · rw [h1]; intro h2; injection h2 with h2; omega
      · exact ho.2.1 j ver z' v h1, ho.2.2⟩
  refine ⟨by simp [Act.put, h.size], h.defers, fun t => ?_, fun j cs hj => ?_, h.bxn, fun j q hq => ?_, fun j hj => ?_, h.ginj, fun j g j' ver z v hj hv' => ?_, fun j ver z v j' ver' z' v' b hj hj' hb hb' => ?_, h.gfr, h.gx, h.nx, fun j ver z' v b hj hb => ?_, fun j z' v hjk hj => ?_, ?_⟩
  · by_cases e : t = k
    · subst e
      have : (a.put (some t) u).tmps.getD t undef = u := by simp [Act.put, Array.getD, h.size, hkN]
      rw [this]; simp only [upd_same]
      exact .one (hcell _ _ _ (by simp [upd_same]))
    · have : (a.put (some k) u).tmps.getD t undef = a.tmps.getD t undef := by simp [Act.put, Array.getD_eq_getD_getElem?, Ne.symm e]
      rw [this]; simp only [upd_ne _ _ e]
      exact (h.tm t).move hkeep hokb (Nat.le_refl _) hle
  · obtain ⟨g, c0, ty', h1, h2, h3⟩ := h.bx j cs hj
    exact ⟨g, c0, ty', h1, (hgr.block g (h.glt h1) (by simp)).trans h2, h3.move hkeep hokb (Nat.le_refl _) hle⟩
  · by_cases e : j = k
    · subst e; simp only [upd_same, Option.some.injEq] at hq; subst hq
      exact ⟨fun _ => hver, hro, _, vs, by simp [upd_same, hver], hown, hrel.move hkeep hokb (Nat.le_refl _)⟩
    · simp only [upd_ne _ _ e] at hq
      obtain ⟨h1, h2, v, vs', h3, h4, h5⟩ := h.rw j q hq
      refine ⟨h1, h2, v, vs', by simp only [upd_ne _ _ e]; exact h3, ?_, h5.move hkeep hokb (Nat.le_refl _)⟩
      rcases hu : (blkV v) with _ | b
      · exact h4.kept hgr (.inl hu)
      · exact h4.kept hgr (.inr (by rw [hu]; simp))
  · by_cases e : j = k
    · subst e; simp [upd_same] at hj
    · simp only [upd_ne _ _ e] at hj ⊢; exact h.rwn j hj
  · rcases hrow hv' with ⟨_, h1⟩ | ⟨_, h1⟩
    · rw [h1]; intro h2; injection h2 with h2; have := h.glt hj; omega
    · exact h.gr j g j' ver z v hj h1
  · rcases hrow hj with ⟨e1, h1⟩ | ⟨_, h1⟩ <;> rcases hrow hj' with ⟨e2, h2⟩ | ⟨_, h2⟩
    · rw [e1, e2]
    · rw [h1] at hb; injection hb with hb; have := h.rlt h2 hb'; omega
    · rw [h2] at hb'; injection hb' with hb'; have := h.rlt h1 hb; omega
    · exact h.rr j _ _ v j' _ _ v' b h1 h2 hb hb'
  · rcases hrow hj with ⟨_, h1⟩ | ⟨_, h1⟩
    · rw [h1] at hb; injection hb with hb; subst hb; exact .inl h.frame.size
    · exact h.rfr j ver z' v b h1 hb
  · by_cases e : j = k
    · have := h.nx; omega
    · simp only [upd_ne _ _ e] at hj; exact h.rst j z' v hjk hj
  · exact ⟨hgr.os.trans h.frame.os, hgr.tape.trans h.frame.tape, hgr.output.trans h.frame.output, Nat.le_trans h.frame.size hgr.size, fun b hb hne => (hgr.block b (Nat.lt_of_lt_of_le hb h.frame.size) (by simp)).trans (h.frame.block b hb hne)⟩

theorem St.newRow (h : St w0 okA ext N s a w E) {w1 : World} (hgr : w.grownBy w1 none) {k c : Nat} {r : Row} {vs : List Value} (hs : s.rw k = none) (hkN : k < N) (hz : 0 < r.z) (hro : rowOk r.z r.es) (hver : r.ver = 0)
    (hown : w1.ownsRow 0 r.E r.z (.slice (some ⟨w.heap.size, 0, none⟩) r.es.length c) r.es.length vs) (hrel : RRel w (okE w0 okA E) w0.heap.size r.es.flatten vs) :
    St w0 okA ext N { s with tm := upd s.tm k (.one (.ow k 0)), rw := upd s.rw k (some r) } (a.put (some k) (.slice (some ⟨w.heap.size, 0, none⟩) r.es.length c)) w1 ⟨E.gm, upd E.rm k (some (0, r.z, .slice (some ⟨w.heap.size, 0, none⟩) r.es.length c))⟩ :=
  h.newG hgr hs hkN rfl (.of hz hro) hver (fun E' ok base he => ⟨rfl, 0, r.z, _, he, Nat.le_refl _, fun _ => rfl, hz⟩) (.inl ⟨hz, hown⟩) hrel

theorem s_mkr (h : St w0 okA ext N s a w E) {t e : TypeId} {i : TypeInfo} {l lc : Operand} {m mc : Opd} {z : List Value} (hl : opd l = some m) (hlc : opd lc = some mc) (hu : P.underlying t = some (.slice e)) (hi : P.info? e = some i) (hz : zeroOf P e = some z) (hzl : z.length = i.size)
    (ho : o.op = .makeSlice t l lc) (hd : ∀ k, o.dst = some k → k < N) (hK : SGood (estep o.dst (.mkr e i.size i.bytes z m mc) s) (Serves w0 okA ext N K)) : o.wp P a w K Q := by
  have hrl := ev_rel h hl
  have hrc := ev_rel h hlc
  obtain ⟨i', zv, hi', hzv, hzc, hone⟩ := zero_of hz
  rw [hi] at hi'; injection hi' with hi'; subst hi'
  cases hdst : o.dst with
  | none => rw [hdst] at hK; simp only [estep] at hK; exact hK.elim
  | some k =>
    rw [hdst] at hK
    simp only [estep] at hK
    split at hK
    · rename_i k' kk mm kk' mm' hk' hv hvc
      injection hk' with hk'; subst hk'
      have el := one_g hrl hv
      have ec := one_g hrc hvc
      split at hK
      · rename_i hs
        split at hK
        · rename_i hcond
          obtain ⟨hkx, hz0, _⟩ := hcond
          obtain ⟨⟨h0, hmm, hby, h63⟩, hK⟩ := hK
          subst hmm
          obtain ⟨n, rfl⟩ : ∃ n : Nat, mm' = n := ⟨mm'.toNat, by omega⟩
          obtain ⟨w1, hrun, hown, hgr⟩ := run_make_full (P := P) w 0 t e i zv i.size hu hi hzv rfl kk kk' n (by
            have : ((n * i.bytes : Nat) : Int) ≤ 281474976710656 := by rw [Int.natCast_mul]; exact hby
            rw [Nat.mul_comm]; omega) (by simp only [maxLen]; omega) (Nat.zero_le _)
          have hcsz : zv.cells.size = i.size := by have := congrArg List.length hzc; simp at this; omega
          have hfl : (madeCells zv.cells (n * i.size)).toList = (List.replicate n z).flatten := by
            have := made_flat zv.cells n i.size hcsz hz0
            rw [hzc] at this; exact this
          rw [hfl] at hown
          have hst := h.newRow hgr (k := k) (c := n) (r := ⟨0, e, i.size, List.replicate n (z.map Cel.g)⟩) (vs := (List.replicate n z).flatten) hs (hd k hdst) hz0
            (fun x hx => by rw [List.eq_of_mem_replicate hx]; simp; omega) rfl (by simpa using hown) (zero_rel hone n)
          refine wp_value (v := .slice (some ⟨w.heap.size, 0, none⟩) n n) (w' := w1) ?_ (by rw [hdst]; simpa using hK _ _ _ hst)
          simp [execOp, ho, el, ec, hrun]
        · exact hK.elim
      · exact hK.elim
    · exact hK.elim
theorem s_bslr (h : St w0 okA ext N s a w E) {t e : TypeId} {i : TypeInfo} {len : Nat} {parts : Array (Nat × Operand)} {ps : List Opd} (hu : P.underlying t = some (.slice e)) (hi : P.info? e = some i) (hps : parts.toList.mapM (fun p => opd p.2) = some ps)
    (hidx : parts.toList.map (·.1) = List.range len) (hz0 : 0 < i.size) (hsm : len * i.size ≤ 16777216) (hl0 : 0 < len) (hzero : (i.zero.map (·.cells.size)) = some i.size)
    (ho : o.op = .buildSlice t len parts) (hd : ∀ k, o.dst = some k → k < N) (hK : SGood (estep o.dst (.bslr e i.size len ps) s) (Serves w0 okA ext N K)) : o.wp P a w K Q := by
  simp only [estep] at hK
  split at hK
  · rename_i k es hdst hes
    split at hK
    · rename_i hs
      split at hK
      rotate_left
      · exact hK.elim
      rename_i hcond
      simp only [Bool.and_eq_true, List.all_eq_true, decide_eq_true_eq] at hcond
      obtain ⟨⟨⟨hall, hlen⟩, hkx⟩, _⟩ := hcond
      have hplen : parts.toList.length = len := by have := mapM_len hps; omega
      have heslen : es.length = len := by have := mapM_len hes; omega
      -- each part's cells
      have hpart : ∀ (k : Nat) (p : Nat × Operand), parts.toList[k]? = some p → ∃ x : List Cel, es[k]? = some x ∧ RRel w (okE w0 okA E) w0.heap.size x (a.eval p.2).cells.toList ∧ x.length = i.size := fun k p hp => by
        have h1 := mapM_at hps hp
        have hk : k < ps.length := by have := (List.getElem?_eq_some_iff.1 hp).1; have := mapM_len hps; omega
        have h2 : ps[k]? = some ps[k] := List.getElem?_eq_getElem hk
        have h3 := mapM_at hes h2
        have hk' : k < es.length := by have := mapM_len hes; omega
        have h4 : es[k]? = some es[k] := List.getElem?_eq_getElem hk'
        rw [h4] at h3
        have h5 := (ev_rel h (h1.symm.trans h2)).cells h3.symm
        have h6 := hall es[k] (List.getElem_mem _)
        exact ⟨es[k], h4, RRel.of h5 h6.2, h6.1⟩
      have hrow : rowOk i.size es := fun x hx => by
        obtain ⟨k, hk⟩ := List.getElem?_of_mem hx
        have hlt : k < parts.toList.length := by have := (List.getElem?_eq_some_iff.1 hk).1; omega
        obtain ⟨x', h1, _, h2⟩ := hpart k _ (List.getElem?_eq_getElem hlt)
        rw [hk] at h1; injection h1 with h1; subst h1
        exact h2
      generalize hvs : (parts.toList.map fun p => (a.eval p.2).cells.toList).flatten = vs
      have hrel0 : RRel w (okE w0 okA E) w0.heap.size es.flatten vs := by
        subst hvs
        exact rrel_flatten parts.toList es (fun p => (a.eval p.2).cells.toList) (by omega) (fun k p hp => by obtain ⟨x, h1, h2, _⟩ := hpart k p hp; exact ⟨x, h1, h2⟩)
      obtain ⟨zv, hzv, hzs⟩ : ∃ zv, i.zero = some zv ∧ zv.cells.size = i.size := by
        cases hzz : i.zero with
        | none => rw [hzz] at hzero; cases hzero
        | some zv => rw [hzz] at hzero; exact ⟨zv, rfl, by simpa using hzero⟩
      have hzip : (parts.map fun (p : Nat × Operand) => (p.1, a.eval p.2)).toList = (List.range' 0 (parts.toList.map fun p => a.eval p.2).length).zip (parts.toList.map fun p => a.eval p.2) := by
        rw [Array.toList_map]
        exact zip_of_idx a.eval parts.toList 0 (by rw [hidx, hplen, List.range_eq_range'])
      have hfill := fill_row i.size (parts.toList.map fun p => a.eval p.2) 0 ((Array.range (len * i.size)).map (zv.cells[· % zv.cells.size]!)) (fun v hv => by
        simp only [List.mem_map] at hv
        obtain ⟨p, hp, rfl⟩ := hv
        obtain ⟨k, hk⟩ := List.getElem?_of_mem hp
        obtain ⟨x, _, h2, h3⟩ := hpart k p hk
        have := h2.1; simp at this; omega) (by simp [hplen])
      rw [← hzip] at hfill
      simp only [Nat.zero_mul, List.take_zero, List.nil_append, List.map_map] at hfill
      have hrun : (execOp a.eval o).run P w = .ok (.value (.slice (some ⟨w.heap.size, 0, none⟩) len len)) (w.alloc (.cells vs.toArray e)) := by
        have h3 : ((fun v : Value => v.cells.toList) ∘ fun p : Nat × Operand => a.eval p.2) = fun p => (a.eval p.2).cells.toList := rfl
        rw [h3, hvs] at hfill
        have h4 : ¬ (len * i.size > 2 ^ 24) := by simp; omega
        have h5 : ¬ (len * i.size = 0) := by
          intro h0; rcases Nat.mul_eq_zero.1 h0 with h | h <;> omega
        simp only [execOp, ho]
        rw [Array.toList_map] at hfill
        have h6 : ¬ (2 ^ 24 < len * i.size) := h4
        simp [Instr.buildSlice, run_underlying hu, sizeOf, typeInfo, hi, zeroValue, hzv, newRow, newObj]
        rw [if_neg (by simpa using h6), if_neg h5, hfill]
        simp [Sem.run]
      have hgr : w.grownBy (w.alloc (.cells vs.toArray e)) none := World.grownBy_alloc w _ _
      have hvl : vs.length = len * i.size := by rw [← hrel0.1, flatten_len hrow, heslen]
      have hown : (w.alloc (.cells vs.toArray e)).ownsRow 0 e i.size (.slice (some ⟨w.heap.size, 0, none⟩) len len) len vs :=
        ⟨hvl, .inr ⟨w.heap.size, len, vs.toArray, rfl, Nat.zero_le _, heap_alloc_new w _, Nat.le_refl _, by simp only [maxLen]; have : len ≤ len * i.size := Nat.le_mul_of_pos_right _ hz0; omega, by simpa using hvl, by rw [← hvl]; simp⟩⟩
      have hst := h.newRow hgr (k := k) (c := len) (r := ⟨0, e, i.size, es⟩) (vs := vs) hs (hd k hdst) hz0 hrow rfl (by simpa [heslen] using hown) hrel0
      refine wp_value (w' := w.alloc (.cells vs.toArray e)) hrun (by rw [hdst]; simpa [heslen] using hK _ _ _ hst)
    · exact hK.elim
  · exact hK.elim
end
end Go.Ai

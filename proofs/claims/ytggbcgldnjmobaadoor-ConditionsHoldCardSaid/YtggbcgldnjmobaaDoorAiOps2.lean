/-
  The abstract layer: the operations that write, grow or lay memory; struct and slice literals.
-/
import Derived.Test.YtggbcgldnjmobaaDoorAiOps
import Derived.Laws.OwnMore
namespace Go.Ai
open Go
set_option linter.unusedSimpArgs false
set_option linter.unusedVariables false

section lists
variable {α : Type}
theorem wr_length (cs : List α) (off : Nat) (news : List α) (h : off + news.length ≤ cs.length) : (wr cs off news).length = cs.length := by
  simp [wr]; omega
theorem wr_append_left (e F : List α) (off : Nat) (news : List α) (h : off + news.length ≤ e.length) : wr e off news ++ F = wr (e ++ F) off news := by
  simp only [wr, List.append_assoc]
  rw [List.take_append_of_le_length (by omega), List.drop_append_of_le_length (by omega)]
theorem wr_append_right (e F : List α) (off : Nat) (news : List α) : e ++ wr F off news = wr (e ++ F) (e.length + off) news := by
  simp only [wr, List.take_length_add_append, Nat.add_assoc, List.drop_length_add_append, List.append_assoc]
theorem flatten_wr {z : Nat} (off : Nat) (news : List α) (hn : off + news.length ≤ z) : ∀ {es : List (List α)} {i : Nat} {e : List α}, (∀ e ∈ es, e.length = z) → es[i]? = some e →
    (es.set i (wr e off news)).flatten = wr es.flatten (i * z + off) news
  | [], i, e, _, he => by simp at he
  | e0 :: es, 0, e, hz, he => by
    simp at he; subst he
    have h0 : e0.length = z := hz e0 (by simp)
    simp only [List.set_cons_zero, List.flatten_cons, Nat.zero_mul, Nat.zero_add]
    exact wr_append_left e0 es.flatten off news (by omega)
  | e0 :: es, i + 1, e, hz, he => by
    have h0 : e0.length = z := hz e0 (by simp)
    have ih := flatten_wr off news hn (es := es) (fun e h => hz e (by simp [h])) (by simpa using he)
    simp only [List.set_cons_succ, List.flatten_cons, ih]
    rw [wr_append_right, h0]
    congr 1
    rw [Nat.add_mul]; omega
theorem map_wr {β : Type} (f : α → β) (cs : List α) (off : Nat) (news : List α) : (wr cs off news).map f = wr (cs.map f) off (news.map f) := by
  simp [wr]
theorem flatten_len {z : Nat} : ∀ {es : List (List α)}, (∀ e ∈ es, e.length = z) → es.flatten.length = es.length * z
  | [], _ => by simp
  | e0 :: es, hz => by
    have ih := flatten_len (es := es) (fun e h => hz e (by simp [h]))
    have h0 : e0.length = z := hz e0 (by simp)
    simp only [List.flatten_cons, List.length_append, ih, h0, List.length_cons, Nat.add_mul]; omega
theorem flatten_inv {z : Nat} : ∀ {es : List (List α)}, (∀ e ∈ es, e.length = z) → ∀ {j : Nat} {x : α}, es.flatten[j]? = some x → ∃ i k e, es[i]? = some e ∧ e[k]? = some x ∧ j = i * z + k
  | [], _, j, x, h => by simp at h
  | e0 :: es, hz, j, x, h => by
    have h0 : e0.length = z := hz e0 (by simp)
    rw [List.flatten_cons, List.getElem?_append] at h
    split at h
    · exact ⟨0, j, e0, rfl, h, by simp⟩
    · rename_i hge
      obtain ⟨i, k, e, h1, h2, h3⟩ := flatten_inv (es := es) (fun e h => hz e (by simp [h])) h
      exact ⟨i + 1, k, e, by simpa using h1, h2, by rw [Nat.add_mul]; omega⟩
theorem wr_take (cs : List α) (off : Nat) (news : List α) (m : Nat) (h : off + news.length ≤ m) (hm : m ≤ cs.length) : (wr cs off news).take m = wr (cs.take m) off news := by
  have h1 : cs = cs.take m ++ cs.drop m := (List.take_append_drop m cs).symm
  have h2 : off + news.length ≤ (cs.take m).length := by simp; omega
  conv => lhs; rw [h1, ← wr_append_left _ _ _ _ h2]
  have h3 : (wr (cs.take m) off news).length = m := by rw [wr_length _ _ _ h2]; simp; omega
  rw [List.take_append_of_le_length (by omega), List.take_of_length_le (by omega)]
end lists

section
variable {P : Program} {w0 w w' : World} {okA : Nat → Prop} {ext : Ext} {N : Nat} {s : AS} {a : Act} {E : Env} {o : Oper} {K : Act → World → Prop} {Q : Exit → Act → World → Prop}

theorem CsRel.wr {cs ds : List Cel} {us vs : List Value} {ok : Nat → Prop} {base off : Nat} (h : CsRel w ok base E cs us) (k : CsRel w ok base E ds vs) : CsRel w ok base E (Ai.wr cs off ds) (Ai.wr us off vs) := by
  unfold Ai.wr
  rw [← k.1]
  exact ((h.take off).append k).append (h.drop _)

theorem RRel.wr {cs ds : List Cel} {us vs : List Value} {ok : Nat → Prop} {base off : Nat} (h : RRel w ok base cs us) (k : RRel w ok base ds vs) : RRel w ok base (Ai.wr cs off ds) (Ai.wr us off vs) := by
  unfold Ai.wr
  rw [← k.1]
  exact ((h.take off).append k).append (h.drop _)

theorem s_fld (h : St w0 okA ext N s a w E) {t : TypeId} {k : Nat} {f : Field} {d : TypeDesc} {i : TypeInfo} {x : Operand} {y : Opd} (hx : opd x = some y) (hf : fieldOf P t k = some f) (hu : P.underlying f.type = some d) (hi : P.info? f.type = some i)
    (ho : o.op = .field t x k) (hd : ∀ k, o.dst = some k → k < N) (hK : SGood (estep o.dst (.fld f.offset (isAggB d) i.size y) s) (Serves w0 okA ext N K)) : o.wp P a w K Q := by
  simp only [estep] at hK
  have hr := ev_rel h hx
  unfold fieldOf at hf
  split at hf
  · rename_i fs hus
    split at hK
    · rename_i cs hv
      obtain ⟨us, hp, hc⟩ := ag_c hr hv
      split at hK
      · rename_i hagg
        obtain ⟨hl, hK⟩ := hK
        refine wp_value (v := .agg ((us.drop f.offset).take i.size).toArray) (w' := w) ?_ (hK _ _ E (h.put (.ag ((hc.drop _).take _)) hd))
        cases d <;> simp [isAggB] at hagg <;> simp [execOp, ho, hp, Instr.field, run_underlying hus, hf, asAgg, part, isAgg, run_underlying hu, sizeOf, typeInfo, hi]
      · rename_i hagg
        split at hK
        · rename_i c hc0
          obtain ⟨u, h1, h2⟩ := hc.at_ hc0
          refine wp_value (v := u) (w' := w) ?_ (hK _ _ E (h.put (.one h2) hd))
          have h4 : isAggB d = false := by simpa using hagg
          cases d <;> simp [isAggB] at h4 <;> simp [execOp, ho, hp, Instr.field, run_underlying hus, hf, asAgg, part, isAgg, run_underlying hu, h1]
        · exact hK.elim
    · exact hK.elim
  · cases hf

theorem run_store_row {g : Nat} {cur : Array Value} {ty t : TypeId} {i : TypeInfo} {off : Nat} {v : Value} (hg : w.heap[g]? = some (.cells cur ty (0, 0))) (hi : P.info? t = some i) (hv : v.cells.size = i.size) (hl : off + i.size ≤ cur.size)
    (h1 : ∀ u ∈ v.cells.toList, u.oneCell' = true) (x y : Operand) (hx : a.eval x = .pointer (some ⟨g, off, none⟩)) (hy : a.eval y = v) (ho : o.op = .store t x y) :
    (execOp a.eval o).run P w = .ok .skip (w.setRow g (wr cur.toList off v.cells.toList).toArray) := by
  have hs := run_storeCells_at (P := P) g off ty v.cells.toList 0 cur w hg (by simp; omega) h1
  simp only [Nat.add_zero] at hs
  simp only [execOp, ho, hx, hy, Instr.storeAt, Instr.sureAddr, storeVar, sizeOf, typeInfo, hv]
  simp [hi, hv, hs, wr]

theorem setRow_grown (w : World) (g : Nat) (cs : Array Value) : w.grownBy (w.setRow g cs) (some g) :=
  ⟨rfl, rfl, rfl, by simp, fun k _ hk => setRow_other w g k cs (by simpa using hk)⟩

theorem s_store (h : St w0 okA ext N s a w E) {t : TypeId} {i : TypeInfo} {x x' : Operand} {y y' : Opd} (hx : opd x = some y) (hx' : opd x' = some y') (hi : P.info? t = some i)
    (ho : o.op = .store t x x') (hd : ∀ k, o.dst = some k → k < N) (hK : SGood (estep o.dst (.store i.size y y') s) (Serves w0 okA ext N K)) : o.wp P a w K Q := by
  simp only [estep] at hK
  have hr := ev_rel h hx
  have hr' := ev_rel h hx'
  split at hK
  · rename_i k off news hv hnews
    split at hK
    · rename_i cs hs
      split at hK
      · rename_i hnl
        obtain ⟨hl, hK⟩ := hK
        obtain ⟨g, hg, hp⟩ := one_c hr hv
        obtain ⟨g', cur, ty, h1, h2, h3⟩ := h.bx k cs hs
        rw [hg] at h1; injection h1 with h1; subst h1
        have h4 := hr'.cells hnews
        have hsz : (a.eval x').cells.size = i.size := by have := h4.1; simp at this; omega
        have hcl : cs.length = cur.size := by simpa using h3.1
        have hrun := run_store_row (P := P) (a := a) (o := o) h2 hi hsz (by omega) h4.ones x x' hp rfl ho
        have hgr := setRow_grown w g (Ai.wr cur.toList off (a.eval x').cells.toList).toArray
        have hkeep : Keeps (okE w0 okA E) w (w.setRow g (Ai.wr cur.toList off (a.eval x').cells.toList).toArray) := ⟨hgr.size, fun b hb ho => hgr.block b hb (fun e => ho.1 k (by rw [hg]; exact e.symm))⟩
        have hst := h.boxTurn (cs' := Ai.wr cs off news) hg hgr (setRow_heap w g cur _ ty (0, 0) h2) ((h3.wr h4).move hkeep (fun _ _ h => h) (Nat.le_refl _) (.refl E))
        exact wp_skip_ hrun (hK _ _ E (hst.put .any hd))
      · exact hK.elim
    · exact hK.elim
  · rename_i k ver j off news hv hnews
    split at hK
    · rename_i r hs
      split at hK
      · rename_i hcond
        simp only [Bool.and_eq_true, decide_eq_true_eq, List.all_eq_true] at hcond
        obtain ⟨⟨hver, hnl⟩, hgs⟩ := hcond
        split at hK
        · rename_i e he
          obtain ⟨hl, hK⟩ := hK
          obtain ⟨_, ver', z, u, hm, hle, hu', hzp⟩ := one_c hr hv
          obtain ⟨hz0, hrow, u', vs, hm', hown, hrel0⟩ := h.rwS hs (h.zpos hs hm hzp)
          have hm2 := hm
          rw [hm] at hm'
          simp only [Option.some.injEq, Prod.mk.injEq] at hm'
          obtain ⟨rfl, rfl, rfl⟩ := hm'
          obtain ⟨g, n, c, rfl, hp⟩ := hu' hver
          have h4 := hr'.cells hnews
          have hsz : (a.eval x').cells.size = i.size := by have := h4.1; simp at this; omega
          have hone := h4.ones
          rcases hown.2 with ⟨h5, _⟩ | ⟨g', cap, cur, h5, hbg, hg, hnc, hcm, hcs, htake⟩
          · cases h5
          · simp only [Value.slice.injEq, Option.some.injEq, Addr.mk.injEq, and_true] at h5
            obtain ⟨rfl, rfl, rfl⟩ := h5
            have hlen : e.length = r.z := hrow e (List.mem_of_getElem? he)
            have hj : j < r.es.length := (List.getElem?_eq_some_iff.1 he).1
            have hfl : vs.length = r.es.length * r.z := hown.1
            have hjz : j * r.z + r.z ≤ r.es.length * r.z := by rw [← Nat.succ_mul]; exact Nat.mul_le_mul_right _ hj
            have hcz : r.es.length * r.z ≤ c * r.z := Nat.mul_le_mul_right _ hnc
            have hrun := run_store_row (P := P) (a := a) (o := o) hg hi hsz (by omega) hone x x' hp rfl ho
            have hgr := setRow_grown w g (Ai.wr cur.toList (j * r.z + off) (a.eval x').cells.toList).toArray
            have hrow' : rowOk r.z (r.es.set j (Ai.wr e off news)) := fun e' he' => by
              rcases List.mem_or_eq_of_mem_set he' with h6 | rfl
              · exact hrow e' h6
              · rw [wr_length _ _ _ (by omega)]; exact hlen
            have hnews' : (a.eval x').cells.toList.length = news.length := h4.1.symm
            have hflat : (r.es.set j (Ai.wr e off news)).flatten = Ai.wr r.es.flatten (j * r.z + off) news := flatten_wr off news (by omega) hrow he
            have hrel' : RRel w (okE w0 okA E) w0.heap.size (r.es.set j (Ai.wr e off news)).flatten (Ai.wr vs (j * r.z + off) (a.eval x').cells.toList) := by
              rw [hflat]; exact hrel0.wr (RRel.of h4 hgs)
            have hst := h.rowTurn (r' := { r with es := r.es.set j (Ai.wr e off news) }) (u' := .slice (some ⟨g, 0, none⟩) r.es.length c) (vs' := Ai.wr vs (j * r.z + off) (a.eval x').cells.toList) hz0 hs hm2 rfl (Nat.le_refl _) (fun _ => rfl) hrow' hgr ⟨by rw [wr_length _ _ _ (by omega)]; simpa using hfl, .inr ⟨g, c, _, by simp, hbg, setRow_heap w g cur _ _ (0, 0) hg, by simpa using hnc, hcm, by simp [Ai.wr]; omega, by
              simp only [List.length_set]
              rw [wr_take _ _ _ _ (by omega) (by simp; omega), htake]⟩⟩ hrel' (.inl rfl)
            exact wp_skip_ hrun (hK _ _ _ (hst.put .any hd))
        · exact hK.elim
      · exact hK.elim
    · exact hK.elim
  · exact hK.elim
end
end Go.Ai

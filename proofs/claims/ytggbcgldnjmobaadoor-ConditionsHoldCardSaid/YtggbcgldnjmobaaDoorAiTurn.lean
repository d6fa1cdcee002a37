/-
  The abstract layer: a new box, a box that is written, a row that grows or is written, what is dropped.
-/
import Derived.Test.YtggbcgldnjmobaaDoorAiRel
namespace Go.Ai
open Go
set_option linter.unusedSimpArgs false
set_option linter.unusedVariables false

theorem upd_same {α : Type} (f : Nat → α) (k : Nat) (v : α) : upd f k v k = v := by simp [upd]
theorem upd_ne {α : Type} (f : Nat → α) {k j : Nat} (v : α) (h : j ≠ k) : upd f k v j = f j := by simp [upd, h]

section
variable {w0 w w' : World} {okA : Nat → Prop} {ext : Ext} {N : Nat} {s : AS} {a : Act} {E : Env}

theorem St.box (h : St w0 okA ext N s a w E) {k : Nat} {cs : List Cel} {cur : List Value} {ty : TypeId} (hk : s.bx k = none) (hk0 : k ≠ 0) (hkN : k < N)
    (hcs : CsRel w (okE w0 okA E) w0.heap.size E cs cur) :
    St w0 okA ext N { s with tm := upd s.tm k (.one (.bx k 0)), bx := upd s.bx k (some cs) } (a.put (some k) (.pointer (some ⟨w.heap.size, 0, none⟩))) (w.alloc (.cells cur.toArray ty))
      ⟨upd E.gm k (some w.heap.size), E.rm⟩ := by
  have hEk : E.gm k = none := h.bxn k hk
  have hkeep : Keeps (okE w0 okA E) w (w.alloc (.cells cur.toArray ty)) := ⟨by simp, fun b hb _ => RowKit.Below.heap_alloc w _ b hb⟩
  have hle : EnvLe E ⟨upd E.gm k (some w.heap.size), E.rm⟩ := ⟨fun j g hj => by
    have : j ≠ k := by rintro rfl; rw [hEk] at hj; cases hj
    simp only [upd_ne _ _ this]; exact hj, (EnvLe.refl E).rm⟩
  have hok : ∀ b, b < w.heap.size → okE w0 okA E b → okE w0 okA ⟨upd E.gm k (some w.heap.size), E.rm⟩ b := fun b hb ho => by
    refine ⟨fun j => ?_, ho.2.1, ho.2.2⟩
    by_cases hj : j = k
    · subst hj; simp only [upd_same]; intro he; injection he with he; omega
    · simp only [upd_ne _ _ hj]; exact ho.1 j
  refine ⟨?_, h.defers, fun t => ?_, fun j cs' hj => ?_, fun j hj => ?_, fun j r hr => ?_, h.rwn, fun j j' g hj hj' => ?_, fun j g j' ver z u hj hr => ?_, h.rr, fun j g hj => ?_, fun j g hjk hj => ?_, h.nx, h.rfr, h.rst, ?_⟩
  · simp [Act.put, h.size]
  · by_cases ht : t = k
    · subst ht
      have : (a.put (some t) (.pointer (some ⟨w.heap.size, 0, none⟩))).tmps.getD t undef = .pointer (some ⟨w.heap.size, 0, none⟩) := by simp [Act.put, Array.getD, h.size, hkN]
      rw [this]; simp only [upd_same]
      exact .one ⟨w.heap.size, by simp [upd_same], rfl⟩
    · have : (a.put (some k) (.pointer (some ⟨w.heap.size, 0, none⟩))).tmps.getD t undef = a.tmps.getD t undef := by simp [Act.put, Array.getD_eq_getD_getElem?, Ne.symm ht]
      rw [this]; simp only [upd_ne _ _ ht]
      exact (h.tm t).move hkeep hok (Nat.le_refl _) hle
  · by_cases hj' : j = k
    · subst hj'
      simp only [upd_same, Option.some.injEq] at hj; subst hj
      exact ⟨w.heap.size, cur.toArray, ty, by simp [upd_same], heap_alloc_new w _, hcs.move hkeep hok (Nat.le_refl _) hle⟩
    · simp only [upd_ne _ _ hj'] at hj
      obtain ⟨g, c0, ty', h1, h2, h3⟩ := h.bx j cs' hj
      exact ⟨g, c0, ty', by simp only [upd_ne _ _ hj']; exact h1, (RowKit.Below.heap_alloc w _ g (h.glt h1)).trans h2, h3.move hkeep hok (Nat.le_refl _) hle⟩
  · by_cases hj' : j = k
    · subst hj'; simp [upd_same] at hj
    · simp only [upd_ne _ _ hj'] at hj ⊢; exact h.bxn j hj
  · obtain ⟨h1, h2, u, vs, h3, h4, h5⟩ := h.rw j r hr
    exact ⟨h1, h2, u, vs, h3, h4.alloc _, h5.move hkeep hok (Nat.le_refl _)⟩
  · by_cases e : j = k <;> by_cases e' : j' = k
    · rw [e, e']
    · subst e; simp only [upd_same, upd_ne _ _ e', Option.some.injEq] at hj hj'
      have := h.glt hj'; omega
    · subst e'; simp only [upd_same, upd_ne _ _ e, Option.some.injEq] at hj hj'
      have := h.glt hj; omega
    · simp only [upd_ne _ _ e, upd_ne _ _ e'] at hj hj'; exact h.ginj j j' g hj hj'
  · by_cases e : j = k
    · subst e; simp only [upd_same, Option.some.injEq] at hj
      intro hu; have := h.rlt hr hu; omega
    · simp only [upd_ne _ _ e] at hj; exact h.gr j g j' ver z u hj hr
  · by_cases e : j = k
    · subst e; simp only [upd_same, Option.some.injEq] at hj; subst hj; exact .inl h.frame.size
    · simp only [upd_ne _ _ e] at hj; exact h.gfr j g hj
  · by_cases e : j = k
    · subst e; have := h.nx; exfalso; rcases hjk with h1 | h1 <;> omega
    · simp only [upd_ne _ _ e] at hj; exact h.gx j g hjk hj
  · exact ⟨h.frame.os, h.frame.tape, h.frame.output, Nat.le_trans h.frame.size (by simp), fun b hb hne => (RowKit.Below.heap_alloc w _ b (Nat.lt_of_lt_of_le hb h.frame.size)).trans (h.frame.block b hb hne)⟩

/-- A box turns (and new blocks may come). -/
theorem St.boxTurn (h : St w0 okA ext N s a w E) {k g : Nat} {cs' : List Cel} {cur' : Array Value} {ty : TypeId} (hg : E.gm k = some g)
    (hgr : w.grownBy w' (some g)) (hw : w'.heap[g]? = some (.cells cur' ty (0, 0))) (hcs : CsRel w' (okE w0 okA E) w0.heap.size E cs' cur'.toList) :
    St w0 okA ext N { s with bx := upd s.bx k (some cs') } a w' E := by
  have hkeep : Keeps (okE w0 okA E) w w' := ⟨hgr.size, fun b hb ho => hgr.block b hb (fun e => ho.1 k (by rw [hg]; exact e.symm))⟩
  refine ⟨h.size, h.defers, fun t => (h.tm t).move hkeep (fun _ _ h => h) (Nat.le_refl _) (.refl E), fun j cs hj => ?_, fun j hj => ?_, fun j r hr => ?_, h.rwn, h.ginj, h.gr, h.rr, h.gfr, h.gx, h.nx, h.rfr, h.rst, ?_⟩
  · by_cases e : j = k
    · subst e; simp only [upd_same, Option.some.injEq] at hj; subst hj
      exact ⟨g, cur', ty, hg, hw, hcs⟩
    · simp only [upd_ne _ _ e] at hj
      obtain ⟨g', c0, ty', h1, h2, h3⟩ := h.bx j cs hj
      have hne : g' ≠ g := by rintro rfl; exact e (h.ginj _ _ _ h1 hg)
      exact ⟨g', c0, ty', h1, (hgr.block g' (h.glt h1) (by simpa using hne)).trans h2, h3.move hkeep (fun _ _ h => h) (Nat.le_refl _) (.refl E)⟩
  · by_cases e : j = k
    · subst e; simp [upd_same] at hj
    · simp only [upd_ne _ _ e] at hj; exact h.bxn j hj
  · obtain ⟨h1, h2, u, vs, h3, h4, h5⟩ := h.rw j r hr
    exact ⟨h1, h2, u, vs, h3, h4.kept hgr (.inr (h.gr k g j _ _ u hg h3)), h5.move hkeep (fun _ _ h => h) (Nat.le_refl _)⟩
  · refine ⟨hgr.os.trans h.frame.os, hgr.tape.trans h.frame.tape, hgr.output.trans h.frame.output, Nat.le_trans h.frame.size hgr.size, fun b hb hne => ?_⟩
    refine (hgr.block b (Nat.lt_of_lt_of_le hb h.frame.size) (fun e => ?_)).trans (h.frame.block b hb hne)
    injection e with e; subst e
    rcases h.gfr k b hg with h1 | h1
    · omega
    · exact hne h1

/-- A row turns. -/
theorem St.rowTurnG (h : St w0 okA ext N s a w E) {k : Nat} {r r' : Row} {u u' : Value} {vs' : List Value} (hr : s.rw k = some r) (hu : E.rm k = some (r.ver, r.z, u))
    (hz : r'.z = r.z) (hv : r.ver ≤ r'.ver) (hv0 : r.z = 0 → r'.ver = 0) (hvu : r.ver = r'.ver ∨ r.z = 0 → u = u') (hok : rowOkZ r'.z r'.es)
    (hgr : w.grownBy w' (blkV u)) (hown : owns w' 0 r'.E r'.z u' r'.es.length vs') (hrel : RRel w (okE w0 okA E) w0.heap.size r'.es.flatten vs') (hat : (blkV u') = (blkV u) ∨ (blkV u') = some w.heap.size) :
    St w0 okA ext N { s with rw := upd s.rw k (some r') } a w' ⟨E.gm, upd E.rm k (some (r'.ver, r'.z, u'))⟩ := by
  obtain ⟨hz0, _, u0, vs0, hu0, hown0, _⟩ := h.rw k r hr
  rw [hu] at hu0
  simp only [Option.some.injEq, Prod.mk.injEq, true_and] at hu0
  subst hu0
  have hkeep : Keeps (okE w0 okA E) w w' := ⟨hgr.size, fun b hb ho => hgr.block b hb (fun e => ho.2.1 k _ _ u hu e.symm)⟩
  have hle : EnvLe E ⟨E.gm, upd E.rm k (some (r'.ver, r'.z, u'))⟩ := ⟨fun _ _ h => h, fun j ver z v hj => by
    by_cases e : j = k
    · subst e
      rw [hu] at hj; simp only [Option.some.injEq, Prod.mk.injEq] at hj
      obtain ⟨rfl, rfl, rfl⟩ := hj
      exact ⟨r'.ver, u', by simp [upd_same, hz], hv, hvu⟩
    · exact ⟨ver, v, by simp only [upd_ne _ _ e]; exact hj, Nat.le_refl _, fun _ => rfl⟩⟩
  have hokb : ∀ b, b < w.heap.size → okE w0 okA E b → okE w0 okA ⟨E.gm, upd E.rm k (some (r'.ver, r'.z, u'))⟩ b := fun b hb ho => by
    refine ⟨ho.1, fun j ver z v hj => ?_, ho.2.2⟩
    by_cases e : j = k
    · subst e
      simp only [upd_same, Option.some.injEq, Prod.mk.injEq] at hj
      obtain ⟨_, _, rfl⟩ := hj
      rcases hat with h1 | h1 <;> rw [h1]
      · exact ho.2.1 j _ _ u hu
      · intro h2; injection h2 with h2; omega
    · simp only [upd_ne _ _ e] at hj; exact ho.2.1 j ver z v hj
  have hrow : ∀ {j ver z v}, (upd E.rm k (some (r'.ver, r'.z, u'))) j = some (ver, z, v) → (j = k ∧ v = u') ∨ (j ≠ k ∧ E.rm j = some (ver, z, v)) := fun {j ver z v} hj => by
    by_cases e : j = k
    · subst e; simp only [upd_same, Option.some.injEq, Prod.mk.injEq] at hj; exact .inl ⟨rfl, hj.2.2.symm⟩
    · simp only [upd_ne _ _ e] at hj; exact .inr ⟨e, hj⟩
  refine ⟨h.size, h.defers, fun t => (h.tm t).move hkeep hokb (Nat.le_refl _) hle, fun j cs hj => ?_, h.bxn, fun j q hq => ?_, fun j hj => ?_, h.ginj, fun j g j' ver z v hj hv' => ?_, fun j ver z v j' ver' z' v' b hj hj' hb hb' => ?_, h.gfr, h.gx, h.nx, fun j ver z v b hj hb => ?_, fun j z v hjk hj => ?_, ?_⟩
  · obtain ⟨g, c0, ty', h1, h2, h3⟩ := h.bx j cs hj
    exact ⟨g, c0, ty', h1, (hgr.block g (h.glt h1) (fun e => h.gr j g k _ _ u h1 hu e.symm)).trans h2, h3.move hkeep hokb (Nat.le_refl _) hle⟩
  · by_cases e : j = k
    · subst e; simp only [upd_same, Option.some.injEq] at hq; subst hq
      exact ⟨fun h0 => hv0 (by omega), hok, u', vs', by simp [upd_same], hown, hrel.move hkeep hokb (Nat.le_refl _)⟩
    · simp only [upd_ne _ _ e] at hq
      obtain ⟨h1, h2, v, vs, h3, h4, h5⟩ := h.rw j q hq
      refine ⟨h1, h2, v, vs, by simp only [upd_ne _ _ e]; exact h3, ?_, h5.move hkeep hokb (Nat.le_refl _)⟩
      rcases hb : (blkV v) with _ | b
      · exact h4.kept hgr (.inl hb)
      · refine h4.kept hgr (.inr (fun he => ?_))
        exact e (h.rr j _ _ v k _ _ u b h3 hu hb (he ▸ hb))
  · by_cases e : j = k
    · subst e; simp [upd_same] at hj
    · simp only [upd_ne _ _ e] at hj ⊢; exact h.rwn j hj
  · rcases hrow hv' with ⟨rfl, rfl⟩ | ⟨_, h1⟩
    · rcases hat with h1 | h1 <;> rw [h1]
      · exact h.gr j g _ _ _ u hj hu
      · intro h2; injection h2 with h2; have := h.glt hj; omega
    · exact h.gr j g j' ver z v hj h1
  · rcases hrow hj with ⟨rfl, rfl⟩ | ⟨e1, h1⟩ <;> rcases hrow hj' with ⟨rfl, rfl⟩ | ⟨e2, h2⟩
    · rfl
    · rcases hat with h3 | h3 <;> rw [h3] at hb
      · exact absurd (h.rr _ _ _ u j' _ _ v' b hu h2 hb hb').symm e2
      · injection hb with hb; have := h.rlt h2 hb'; omega
    · rcases hat with h3 | h3 <;> rw [h3] at hb'
      · exact absurd (h.rr j _ _ v _ _ _ u b h1 hu hb hb') e1
      · injection hb' with hb'; have := h.rlt h1 hb; omega
    · exact h.rr j _ _ v j' _ _ v' b h1 h2 hb hb'
  · rcases hrow hj with ⟨rfl, rfl⟩ | ⟨_, h1⟩
    · rcases hat with h2 | h2 <;> rw [h2] at hb
      · exact h.rfr j _ _ u b hu hb
      · injection hb with hb; subst hb; exact .inl h.frame.size
    · exact h.rfr j ver z v b h1 hb
  · by_cases e : j = k
    · subst e; simp only [upd_same, Option.some.injEq, Prod.mk.injEq] at hj
      obtain ⟨h1, _, rfl⟩ := hj
      have h2 : r.ver = 0 := by omega
      rw [← hvu (.inl (by omega))]
      rw [h2] at hu
      exact h.rst j _ _ hjk hu
    · simp only [upd_ne _ _ e] at hj; exact h.rst j z v hjk hj
  · refine ⟨hgr.os.trans h.frame.os, hgr.tape.trans h.frame.tape, hgr.output.trans h.frame.output, Nat.le_trans h.frame.size hgr.size, fun b hb hne => ?_⟩
    refine (hgr.block b (Nat.lt_of_lt_of_le hb h.frame.size) (fun e => ?_)).trans (h.frame.block b hb hne)
    rcases h.rfr k _ _ u b hu e.symm with h1 | h1
    · omega
    · exact hne h1.2.2

theorem St.rowTurn (h : St w0 okA ext N s a w E) {k : Nat} {r r' : Row} {u u' : Value} {vs' : List Value} (hz0 : 0 < r.z) (hr : s.rw k = some r) (hu : E.rm k = some (r.ver, r.z, u))
    (hz : r'.z = r.z) (hv : r.ver ≤ r'.ver) (hvu : r.ver = r'.ver → u = u') (hok : rowOk r'.z r'.es)
    (hgr : w.grownBy w' (blkV u)) (hown : w'.ownsRow 0 r'.E r'.z u' r'.es.length vs') (hrel : RRel w (okE w0 okA E) w0.heap.size r'.es.flatten vs') (hat : (blkV u') = (blkV u) ∨ (blkV u') = some w.heap.size) :
    St w0 okA ext N { s with rw := upd s.rw k (some r') } a w' ⟨E.gm, upd E.rm k (some (r'.ver, r'.z, u'))⟩ :=
  h.rowTurnG hr hu hz hv (fun e => by omega) (fun e => e.elim hvu (fun e => by omega)) (.of (by omega) hok) hgr (.inl ⟨by omega, hown⟩) hrel hat

/-- A nil slice in a slot becomes a row of the call's own. -/
theorem St.own (h : St w0 okA ext N s a w E) {k z c : Nat} {E0 : TypeId} (hz : 0 < z) (hk : s.tm k = .one (.g (.slice none 0 c))) (hc : c = 0) (hr : s.rw k = none) :
    St w0 okA ext N { s with tm := upd s.tm k (.one (.ow k 0)), rw := upd s.rw k (some ⟨0, E0, z, []⟩) } a w ⟨E.gm, upd E.rm k (some (0, z, .slice none 0 0))⟩ := by
  subst hc
  have hEk : E.rm k = none := h.rwn k hr
  have hle : EnvLe E ⟨E.gm, upd E.rm k (some (0, z, .slice none 0 0))⟩ := ⟨fun _ _ h => h, fun j ver z v hj => by
    have e : j ≠ k := by rintro rfl; rw [hEk] at hj; cases hj
    exact ⟨ver, v, by simp only [upd_ne _ _ e]; exact hj, Nat.le_refl _, fun _ => rfl⟩⟩
  have hrow : ∀ {j ver z' v}, (upd E.rm k (some (0, z, Value.slice none 0 0))) j = some (ver, z', v) → ((blkV v) = none) ∨ (j ≠ k ∧ E.rm j = some (ver, z', v)) := fun {j ver z' v} hj => by
    by_cases e : j = k
    · subst e; simp only [upd_same, Option.some.injEq, Prod.mk.injEq] at hj; exact .inl (by rw [← hj.2.2]; rfl)
    · simp only [upd_ne _ _ e] at hj; exact .inr ⟨e, hj⟩
  have hokb : ∀ b, b < w.heap.size → okE w0 okA E b → okE w0 okA ⟨E.gm, upd E.rm k (some (0, z, .slice none 0 0))⟩ b := fun b _ ho =>
    ⟨ho.1, fun j ver z' v hj => by
      rcases hrow hj with h1 | ⟨_, h1⟩
      · rw [h1]; simp
      · exact ho.2.1 j ver z' v h1, ho.2.2⟩
  have hmv : ∀ t, VRel w (okE w0 okA ⟨E.gm, upd E.rm k (some (0, z, .slice none 0 0))⟩) w0.heap.size ⟨E.gm, upd E.rm k (some (0, z, .slice none 0 0))⟩ (s.tm t) (a.tmps.getD t undef) :=
    fun t => (h.tm t).move (.refl _ w) hokb (Nat.le_refl _) hle
  refine ⟨h.size, h.defers, fun t => ?_, fun j cs hj => ?_, h.bxn, fun j q hq => ?_, fun j hj => ?_, h.ginj, fun j g j' ver z v hj hv' => ?_, fun j ver z v j' ver' z' v' b hj hj' hb hb' => ?_, h.gfr, h.gx, h.nx, fun j ver z' v b hj hb => ?_, fun j z' v hjk hj => ?_, h.frame⟩
  · by_cases e : t = k
    · subst e
      simp only [upd_same]
      have h1 := h.tm t
      rw [hk] at h1
      cases h1 with
      | one h2 =>
        obtain ⟨h3, _⟩ := h2
        rw [h3]
        exact .one ⟨rfl, 0, z, .slice none 0 0, by simp [upd_same], Nat.le_refl _, fun _ => rfl, hz⟩
    · simp only [upd_ne _ _ e]; exact hmv t
  · obtain ⟨g, c0, ty', h1, h2, h3⟩ := h.bx j cs hj
    exact ⟨g, c0, ty', h1, h2, h3.move (.refl _ w) hokb (Nat.le_refl _) hle⟩
  · by_cases e : j = k
    · subst e; simp only [upd_same, Option.some.injEq] at hq; subst hq
      exact ⟨fun h0 => by simp only at h0; omega, .of hz (fun e he => by simp at he), .slice none 0 0, [], by simp [upd_same], .inl ⟨hz, World.ownsRow_nil _ _ _ _⟩, .nil⟩
    · simp only [upd_ne _ _ e] at hq
      obtain ⟨h1, h2, v, vs, h3, h4, h5⟩ := h.rw j q hq
      exact ⟨h1, h2, v, vs, by simp only [upd_ne _ _ e]; exact h3, h4, h5.move (.refl _ w) hokb (Nat.le_refl _)⟩
  · by_cases e : j = k
    · subst e; simp [upd_same] at hj
    · simp only [upd_ne _ _ e] at hj ⊢; exact h.rwn j hj
  · rcases hrow hv' with h1 | ⟨_, h1⟩
    · rw [h1]; simp
    · exact h.gr j g j' ver z v hj h1
  · rcases hrow hj with h1 | ⟨_, h1⟩
    · rw [h1] at hb; cases hb
    · rcases hrow hj' with h2 | ⟨_, h2⟩
      · rw [h2] at hb'; cases hb'
      · exact h.rr j _ _ v j' _ _ v' b h1 h2 hb hb'
  · rcases hrow hj with h1 | ⟨_, h1⟩
    · rw [h1] at hb; cases hb
    · exact h.rfr j ver z' v b h1 hb
  · by_cases e : j = k
    · subst e
      have hkN : j < N := by
        apply Classical.byContradiction
        intro hno
        have h1 := h.tm j
        rw [hk] at h1
        have h2 : a.tmps.getD j undef = undef := by rw [Array.getD_eq_getD_getElem?, Array.getElem?_eq_none (by rw [h.size]; omega)]; rfl
        rw [h2] at h1
        cases h1 with
        | one h3 => exact absurd h3.1 (by intro e; cases e)
      have := h.nx
      omega
    · simp only [upd_ne _ _ e] at hj; exact h.rst j z' v hjk hj
/-- A nil slice in a box becomes a row of the call's own. -/
theorem St.ownBox (h : St w0 okA ext N s a w E) {k z : Nat} {cs : List Cel} {E0 : TypeId} (hz : 0 < z) (hk : s.bx k = some (.g (.slice none 0 0) :: cs)) (hkx : k < XK) (hr : s.rw k = none) :
    St w0 okA ext N { s with bx := upd s.bx k (some (.ow k 0 :: cs)), rw := upd s.rw k (some ⟨0, E0, z, []⟩) } a w ⟨E.gm, upd E.rm k (some (0, z, .slice none 0 0))⟩ := by
  have hEk : E.rm k = none := h.rwn k hr
  have hle : EnvLe E ⟨E.gm, upd E.rm k (some (0, z, .slice none 0 0))⟩ := ⟨fun _ _ h => h, fun j ver z v hj => by
    have e : j ≠ k := by rintro rfl; rw [hEk] at hj; cases hj
    exact ⟨ver, v, by simp only [upd_ne _ _ e]; exact hj, Nat.le_refl _, fun _ => rfl⟩⟩
  have hrow : ∀ {j ver z' v}, (upd E.rm k (some (0, z, Value.slice none 0 0))) j = some (ver, z', v) → ((blkV v) = none) ∨ (j ≠ k ∧ E.rm j = some (ver, z', v)) := fun {j ver z' v} hj => by
    by_cases e : j = k
    · subst e; simp only [upd_same, Option.some.injEq, Prod.mk.injEq] at hj; exact .inl (by rw [← hj.2.2]; rfl)
    · simp only [upd_ne _ _ e] at hj; exact .inr ⟨e, hj⟩
  have hokb : ∀ b, b < w.heap.size → okE w0 okA E b → okE w0 okA ⟨E.gm, upd E.rm k (some (0, z, .slice none 0 0))⟩ b := fun b _ ho =>
    ⟨ho.1, fun j ver z' v hj => by
      rcases hrow hj with h1 | ⟨_, h1⟩
      · rw [h1]; simp
      · exact ho.2.1 j ver z' v h1, ho.2.2⟩
  have hmv : ∀ t, VRel w (okE w0 okA ⟨E.gm, upd E.rm k (some (0, z, .slice none 0 0))⟩) w0.heap.size ⟨E.gm, upd E.rm k (some (0, z, .slice none 0 0))⟩ (s.tm t) (a.tmps.getD t undef) :=
    fun t => (h.tm t).move (.refl _ w) hokb (Nat.le_refl _) hle
  refine ⟨h.size, h.defers, fun t => ?_, fun j cs' hj => ?_, fun j hj => ?_, fun j q hq => ?_, fun j hj => ?_, h.ginj, fun j g j' ver z v hj hv' => ?_, fun j ver z v j' ver' z' v' b hj hj' hb hb' => ?_, h.gfr, h.gx, h.nx, fun j ver z' v b hj hb => ?_, fun j z' v hjk hj => ?_, h.frame⟩
  · exact hmv t
  · by_cases e : j = k
    · subst e
      simp only [upd_same, Option.some.injEq] at hj; subst hj
      obtain ⟨g, c0, ty', h1, h2, h3⟩ := h.bx j _ hk
      have h4 := h3.move (.refl _ w) hokb (Nat.le_refl _) hle
      obtain ⟨u, us, hu, h5, h6⟩ := h4.uncons
      refine ⟨g, c0, ty', h1, h2, ?_⟩
      rw [hu]
      obtain ⟨rfl, _⟩ := h5
      exact .cons (c := .ow j 0) ⟨rfl, 0, z, .slice none 0 0, by simp [upd_same], Nat.le_refl _, fun _ => rfl, hz⟩ h6
    · simp only [upd_ne _ _ e] at hj
      obtain ⟨g, c0, ty', h1, h2, h3⟩ := h.bx j cs' hj
      exact ⟨g, c0, ty', h1, h2, h3.move (.refl _ w) hokb (Nat.le_refl _) hle⟩
  · by_cases e : j = k
    · subst e; simp [upd_same] at hj
    · simp only [upd_ne _ _ e] at hj; exact h.bxn j hj
  · by_cases e : j = k
    · subst e; simp only [upd_same, Option.some.injEq] at hq; subst hq
      exact ⟨fun h0 => by simp only at h0; omega, .of hz (fun e he => by simp at he), .slice none 0 0, [], by simp [upd_same], .inl ⟨hz, World.ownsRow_nil _ _ _ _⟩, .nil⟩
    · simp only [upd_ne _ _ e] at hq
      obtain ⟨h1, h2, v, vs, h3, h4, h5⟩ := h.rw j q hq
      exact ⟨h1, h2, v, vs, by simp only [upd_ne _ _ e]; exact h3, h4, h5.move (.refl _ w) hokb (Nat.le_refl _)⟩
  · by_cases e : j = k
    · subst e; simp [upd_same] at hj
    · simp only [upd_ne _ _ e] at hj ⊢; exact h.rwn j hj
  · rcases hrow hv' with h1 | ⟨_, h1⟩
    · rw [h1]; simp
    · exact h.gr j g j' ver z v hj h1
  · rcases hrow hj with h1 | ⟨_, h1⟩
    · rw [h1] at hb; cases hb
    · rcases hrow hj' with h2 | ⟨_, h2⟩
      · rw [h2] at hb'; cases hb'
      · exact h.rr j _ _ v j' _ _ v' b h1 h2 hb hb'
  · rcases hrow hj with h1 | ⟨_, h1⟩
    · rw [h1] at hb; cases hb
    · exact h.rfr j ver z' v b h1 hb
  · by_cases e : j = k
    · subst e; omega
    · simp only [upd_ne _ _ e] at hj; exact h.rst j z' v hjk hj
end
end Go.Ai

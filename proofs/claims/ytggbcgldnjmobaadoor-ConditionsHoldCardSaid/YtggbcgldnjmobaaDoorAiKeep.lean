/-
  The abstract layer: what is dropped behind a region; what a callee sees; what is handed back.
-/
import Derived.Test.YtggbcgldnjmobaaDoorAiTurn
namespace Go.Ai
open Go
set_option linter.unusedSimpArgs false
set_option linter.unusedVariables false

theorem tabO_filterMap {α β : Type} (f : Nat → Option α) (g : Nat → α → β) : ∀ (ks : List Nat) (k : Nat),
    tabO (ks.filterMap fun j => (f j).map fun x => (j, g j x)) k = if k ∈ ks then (f k).map (g k) else none
  | [], k => by simp [tabO]
  | j :: ks, k => by
    have ih := tabO_filterMap f g ks k
    simp only [List.filterMap_cons]
    cases hj : f j with
    | none =>
      simp only [Option.map_none, ih, List.mem_cons]
      by_cases e : k = j
      · subst e; simp [hj]
      · simp [e]
    | some x =>
      simp only [Option.map_some, tabO, ih, List.mem_cons]
      by_cases e : k = j
      · subst e; simp [hj]
      · simp [e]

section
variable {w0 w w' : World} {okA : Nat → Prop} {ext : Ext} {N : Nat} {s : AS} {a : Act} {E : Env}

def Env.keep (E : Env) (K : Kp) : Env := ⟨fun k => if k ∈ K.bs then E.gm k else Option.none, fun k => if k ∈ K.rs then (E.rm k).map (fun x => (K.q k x.1, x.2)) else Option.none⟩

theorem okE_keep {b : Nat} (K : Kp) (h : okE w0 okA E b) : okE w0 okA (E.keep K) b := by
  refine ⟨fun k => ?_, fun k ver z u hr => ?_, h.2.2⟩
  · simp only [Env.keep]; split
    · exact h.1 k
    · simp
  · simp only [Env.keep] at hr
    split at hr
    · cases hk : E.rm k with
      | none => rw [hk] at hr; simp at hr
      | some x => obtain ⟨x1, x2, x3⟩ := x; rw [hk] at hr; simp at hr; obtain ⟨_, _, rfl⟩ := hr; exact h.2.1 k x1 x2 x3 hk
    · cases hr

theorem add_none (g o n : Nat) : ((⟨g, o, none⟩ : Addr).add n) = ⟨g, o + n, none⟩ := by
  unfold Addr.add; split
  · rename_i h; subst h; rfl
  · rfl
theorem flatten_at {z : Nat} : ∀ {es : List (List Cel)}, (∀ e ∈ es, e.length = z) → ∀ {i j : Nat} {e : List Cel} {x : Cel}, es[i]? = some e → e[j]? = some x → es.flatten[i * z + j]? = some x
  | [], _, i, j, e, x, he, _ => by simp at he
  | e0 :: es, hz, 0, j, e, x, he, hx => by
    simp at he; subst he
    have hlt : j < e0.length := (List.getElem?_eq_some_iff.1 hx).1
    rw [List.flatten_cons, Nat.zero_mul, Nat.zero_add, List.getElem?_append, if_pos hlt]; exact hx
  | e0 :: es, hz, i + 1, j, e, x, he, hx => by
    simp at he
    have h0 : e0.length = z := hz e0 (by simp)
    have ih := flatten_at (es := es) (fun e h => hz e (by simp [h])) he hx
    have hge : ¬ (i + 1) * z + j < e0.length := by rw [h0, Nat.add_mul]; omega
    rw [List.flatten_cons, List.getElem?_append, if_neg hge, h0]
    rw [show (i + 1) * z + j - z = i * z + j by rw [Nat.add_mul]; omega]
    exact ih


theorem vs_at {z n : Nat} {es : List (List Cel)} {vs : List Value} {base : Nat} {ok : Nat → Prop} (hz : rowOk z es) (hrel : RRel w ok base es.flatten vs) {i j : Nat} {e : List Cel} {x : Cel} (he : es[i]? = some e) (hx : e[j]? = some x) :
    vs[i * z + j]? = some (vs.getD (i * z + j) undef) ∧ x.isD = true ∧ CRel0 w ok base Env.none x (vs.getD (i * z + j) undef) := by
  have h1 := flatten_at hz he hx
  obtain ⟨u, h2, h3, h4⟩ := hrel.at_ h1
  rw [List.getD_eq_getElem?_getD, h2]
  exact ⟨rfl, h3, h4⟩

/-- A data cell, as data. -/
theorem CRel0.toDR {c : Cel} {v : Value} {ok ok' : Nat → Prop} {base : Nat} {E' : Env} (hd : c.isD = true) (h : CRel0 w ok base E' c v) (hok : ∀ b, ok b → ok' b) : DRel w ok' c v := by
  cases c with
  | g u => obtain ⟨rfl, h⟩ := h; exact .g h
  | any => exact .any h
  | sl fr z es =>
    cases fr with
    | false => exact DRel.keep h (.refl _ w) (fun b _ ho => hok b ho)
    | true => exact DRel.keep (ok := fun b => base ≤ b ∧ ok b) h (.refl _ w) (fun b _ ho => hok b ho.2)
  | _ => simp [Cel.isD] at hd
theorem CRel0.toFR {c : Cel} {v : Value} {ok : Nat → Prop} {base : Nat} {E' : Env} (hd : freshC c = true) (h : CRel0 w ok base E' c v) : DRel w (fun b => base ≤ b ∧ ok b) c v := by
  cases c with
  | g u => obtain ⟨rfl, h⟩ := h; exact .g h
  | any => exact .any h
  | sl fr z es =>
    cases fr with
    | false => simp [freshC] at hd
    | true => exact h
  | _ => simp [freshC] at hd

/-- A row of the call's own reads as data, wherever its block may be looked at. -/
theorem row_at {base n : Nat} {E0 : TypeId} {z : Nat} {u : Value} {es : List (List Cel)} {vs : List Value} {fr : Bool} {ok : Nat → Prop} (hz : rowOk z es) (hown : w.ownsRow base E0 z u n vs) (hn : n = es.length) (hl : vs.length = es.flatten.length)
    (hrel : ∀ i j e x, es[i]? = some e → e[j]? = some x → DRel w ok x (vs.getD (i * z + j) undef))
    (hok : ∀ b, (blkV u) = some b → ok b) : DRel w ok (.sl fr z es) u := by
  subst hn
  rcases hown.2 with ⟨rfl, h0⟩ | ⟨g, cap, cur, rfl, hb, hg, hnc, hcm, hcs, htake⟩
  · have : es = [] := List.eq_nil_of_length_eq_zero h0
    subst this; exact .nil
  · have hlt : g < w.heap.size := by
      rcases Nat.lt_or_ge g w.heap.size with hl | hl
      · exact hl
      · rw [Array.getElem?_eq_none hl] at hg; cases hg
    refine .sl (fun i j => vs.getD (i * z + j) undef) rfl hnc (hok g rfl) hlt hz (fun i e j x he hx => ?_) (fun i e j x he hx => hrel i j e x he hx)
    have h1 := flatten_at hz he hx
    have h2 : i * z + j < vs.length := by rw [hl]; exact (List.getElem?_eq_some_iff.1 h1).1
    have h3 := hown.cells (g := g) rfl _ _ (List.getElem?_eq_getElem h2)
    rw [add_none, ← Nat.add_assoc] at h3
    rw [h3, List.getD_eq_getElem?_getD, List.getElem?_eq_getElem h2]; rfl
theorem row_data {base n : Nat} {E0 : TypeId} {z : Nat} {u : Value} {es : List (List Cel)} {vs : List Value} {fr : Bool} {ok ok0 : Nat → Prop} {base0 : Nat} (hz : rowOk z es) (hown : w.ownsRow base E0 z u n vs) (hn : n = es.length) (hrel : RRel w ok0 base0 es.flatten vs) (hle : ∀ b, ok0 b → ok b)
    (hok : ∀ b, (blkV u) = some b → ok b) : DRel w ok (.sl fr z es) u :=
  row_at hz hown hn hrel.1.symm (fun i j e x he hx => by
    obtain ⟨_, h2, h3⟩ := vs_at (n := n) hz hrel he hx
    exact h3.toDR h2 hle) hok
/-- A row as a slice: fresh if all its cells are. -/
theorem row_sl {base n : Nat} {E0 : TypeId} {z : Nat} {u : Value} {es : List (List Cel)} {vs : List Value} {ok : Nat → Prop} {base0 : Nat} {E' : Env} (hz : rowOk z es) (hown : w.ownsRow base E0 z u n vs) (hn : n = es.length) (hrel : RRel w ok base0 es.flatten vs)
    (hok : ∀ b, (blkV u) = some b → base0 ≤ b ∧ ok b) : CRel0 w ok base0 E' (.sl (frE es) z es) u := by
  show DRel w (if frE es = true then (fun b => base0 ≤ b ∧ ok b) else ok) (.sl (frE es) z es) u
  cases hf : frE es with
  | false => exact row_data hz hown hn hrel (fun b h => h) (fun b hb => (hok b hb).2)
  | true =>
    refine row_at hz hown hn hrel.1.symm (fun i j e x he hx => ?_) hok
    obtain ⟨_, h2, h3⟩ := vs_at (n := n) hz hrel he hx
    have h4 : freshC x = true := List.all_eq_true.1 (List.all_eq_true.1 hf e (List.mem_of_getElem? he)) x (List.mem_of_getElem? hx)
    exact h3.toFR h4

theorem ren_rel0 (h : St w0 okA ext N s a w E) (K : Kp) {c : Cel} {v : Value} (hc : CRel0 w (okE w0 okA E) w0.heap.size E c v) :
    CRel0 w (okE w0 okA (E.keep K)) w0.heap.size (E.keep K) (s.renC K c) v := by
  have hk : Keeps (okE w0 okA E) w w := .refl _ w
  cases c with
  | g u => exact hc
  | sl fr z es =>
    cases fr with
    | false => exact DRel.keep hc hk (fun b _ ho => okE_keep K ho)
    | true => exact DRel.keep (ok' := fun b => w0.heap.size ≤ b ∧ okE w0 okA (E.keep K) b) hc (.refl _ w) (fun b _ ho => ⟨ho.1, okE_keep K ho.2⟩)
  | ep cs =>
    obtain ⟨b, off, us, rfl, ho, hlt, hcs⟩ := hc
    exact ⟨b, off, us, rfl, okE_keep K ho, hlt, fun j x hx => ⟨(hcs j x hx).1, (hcs j x hx).2.keep hk (fun b _ ho => okE_keep K ho)⟩⟩
  | bx k off =>
    simp only [AS.renC]
    split
    · obtain ⟨g, hg, rfl⟩ := hc
      rename_i hin
      exact ⟨g, by simp [Env.keep, hin, hg], rfl⟩
    · obtain ⟨g, hg, rfl⟩ := hc; rfl
  | ow k ver =>
    simp only [AS.renC]
    obtain ⟨h1, ver', z, u, hr, hle, hv, hzp⟩ := hc
    cases hs : s.rw k with
    | none => exact h1
    | some r =>
      simp only []
      split
      · rename_i hver
        obtain ⟨_, hro, u', vs, hu', hown, hrel⟩ := h.rwS hs (h.zpos hs hr hzp)
        have hr2 := hr
        rw [hr] at hu'
        simp only [Option.some.injEq, Prod.mk.injEq] at hu'
        obtain ⟨rfl, rfl, rfl⟩ := hu'
        split
        · rename_i hin
          exact ⟨h1, K.q k r.ver, r.z, u, by simp [Env.keep, hin, hr], by rw [hver]; exact Nat.le_refl _, fun _ => hv hver, hzp⟩
        · rename_i hin
          split
          · rename_i hxk
            rw [hv hver]
            have hdrop : ∀ b, (blkV u) = some b → w0.heap.size ≤ b ∧ okE w0 okA (E.keep K) b := fun b hb => by
              have hb0 : w0.heap.size ≤ b := by
                rcases h.rfr k _ _ u b hr2 hb with h2 | h2
                · exact h2
                · have := h2.1; omega
              refine ⟨hb0, fun j => ?_, fun j ver' z' u' hj => ?_, .inl hb0⟩
              · simp only [Env.keep]; split
                · exact fun hj => h.gr j b k _ _ u hj hr2 hb
                · simp
              · simp only [Env.keep] at hj
                split at hj
                · rename_i hin'
                  cases hk : E.rm j with
                  | none => rw [hk] at hj; simp at hj
                  | some x =>
                    obtain ⟨x1, x2, x3⟩ := x
                    rw [hk] at hj; simp at hj; obtain ⟨_, _, rfl⟩ := hj
                    intro hb'
                    have := h.rr j x1 x2 x3 k _ _ u b hk hr2 hb' hb
                    subst this; exact hin hin'
                · cases hj
            have hrel' : RRel w (okE w0 okA (E.keep K)) w0.heap.size r.es.flatten vs := hrel.move (.refl _ w) (fun b _ ho => okE_keep K ho) (Nat.le_refl _)
            exact row_sl hro hown rfl hrel' hdrop
          · exact h1
      · exact h1
  | op k ver i off =>
    simp only [AS.renC]
    split
    · rename_i hin
      obtain ⟨h1, ver', z, u, hr, hle, hv, hzp⟩ := hc
      cases hs : s.rw k with
      | none => exact h1
      | some r =>
        simp only []
        split
        · rename_i hver
          obtain ⟨_, _, u', _, hu', _⟩ := h.rw k r hs
          rw [hr] at hu'
          simp only [Option.some.injEq, Prod.mk.injEq] at hu'
          obtain ⟨rfl, rfl, rfl⟩ := hu'
          exact ⟨h1, K.q k r.ver, r.z, u, by simp [Env.keep, hin, hr], by rw [hver]; exact Nat.le_refl _, fun _ => hv hver, hzp⟩
        · exact h1
    · exact hc.1
  | mp k =>
    simp only [AS.renC]
    obtain ⟨h1, ver', u, hr, hv⟩ := hc
    split
    · rename_i hin
      exact ⟨h1, K.q k ver', u, by simp [Env.keep, hin, hr], hv⟩
    · exact h1
  | os k ver lo => exact hc.1
  | fn f caps => exact hc.elim
  | any => exact hc

theorem ren_rel (h : St w0 okA ext N s a w E) (K : Kp) {c : Cel} {v : Value} (hc : CRel w (okE w0 okA E) w0.heap.size E c v) :
    CRel w (okE w0 okA (E.keep K)) w0.heap.size (E.keep K) (s.renC K c) v := by
  have key : ∀ {c}, CRel0 w (okE w0 okA (E.keep K)) w0.heap.size (E.keep K) c v → CRel w (okE w0 okA (E.keep K)) w0.heap.size (E.keep K) c v := fun {c} h => by
    cases c <;> first | exact h | exact h.elim
  cases c with
  | fn f caps =>
    simp only [AS.renC]
    split
    · rename_i hall
      obtain ⟨us, rfl, hl, hcs⟩ := hc
      refine ⟨us, rfl, hl, fun i c u h1 h2 => ?_⟩
      have h3 := hcs i c u h1 h2
      have h4 := (List.all_eq_true.1 hall) c (List.mem_of_getElem? h1)
      cases c with
      | bx k off =>
        obtain ⟨g, hg, rfl⟩ := h3
        have h5 : k ∈ K.bs := by simpa using h4
        exact ⟨g, by simp [Env.keep, h5, hg], rfl⟩
      | g u => exact h3
      | ep cs => exact ren_rel0 h K (c := .ep cs) h3
      | _ => simp at h4
    · obtain ⟨us, rfl, _⟩ := hc; rfl
  | g u => exact key (ren_rel0 h K (c := .g u) hc)
  | sl fr z es => exact key (ren_rel0 h K (c := .sl fr z es) hc)
  | ep cs => exact key (ren_rel0 h K (c := .ep cs) hc)
  | bx k off => exact key (ren_rel0 h K (c := .bx k off) hc)
  | ow k ver => exact key (ren_rel0 h K (c := .ow k ver) hc)
  | op k ver i off => exact key (ren_rel0 h K (c := .op k ver i off) hc)
  | os k ver lo => exact key (ren_rel0 h K (c := .os k ver lo) hc)
  | mp k => exact key (ren_rel0 h K (c := .mp k) hc)
  | any => exact key (ren_rel0 h K (c := .any) hc)

theorem ren_vrel (h : St w0 okA ext N s a w E) (K : Kp) {x : Val} {v : Value} (hc : VRel w (okE w0 okA E) w0.heap.size E x v) :
    VRel w (okE w0 okA (E.keep K)) w0.heap.size (E.keep K) (s.ren K x) v := by
  cases hc with
  | one h1 => exact .one (ren_rel h K h1)
  | ag h1 =>
    refine .ag ⟨by simpa using h1.1, fun i c u h2 h3 => ?_⟩
    rw [List.getElem?_map] at h2
    cases hi : (_ : List Cel)[i]? with
    | none => rw [hi] at h2; cases h2
    | some c0 => rw [hi] at h2; simp at h2; subst h2; exact ren_rel h K (h1.2 i c0 u hi h3)
  | tu => exact .any
  | any => exact .any

theorem tabV_map (f : Nat → Val) : ∀ (ks : List Nat) (t : Nat), tabV (ks.map fun t => (t, f t)) t = if t ∈ ks then f t else .any
  | [], t => rfl
  | k :: ks, t => by
    simp only [List.map_cons, tabV, tabV_map f ks t, List.mem_cons]
    by_cases e : t = k
    · subst e; simp
    · simp [e]

theorem St.keepE (h : St w0 okA ext N s a w E) (K : Kp) (hq : (∀ k v, XK ≤ k → K.q k v = 0 → v = 0) ∨ ∀ k u, ext.r0 k u) (hq0 : ∀ k, K.q k 0 = 0) : St w0 okA ext N (s.keepK K) a w (E.keep K) := by
  · skip
    have hbx : ∀ k, (s.keepK K).bx k = if k ∈ K.bs then (s.bx k).map (fun cs => cs.map (s.renC K)) else none := fun k => tabO_filterMap s.bx (fun _ cs => cs.map (s.renC K)) K.bs k
    have hrw : ∀ k, (s.keepK K).rw k = if k ∈ K.rs then (s.rw k).map (fun r => { r with ver := K.q k r.ver }) else none := fun k => tabO_filterMap (β := Row) s.rw (fun k r => { r with ver := K.q k r.ver }) K.rs k
    have htm : ∀ t, (s.keepK K).tm t = if t ∈ K.ts then s.ren K (s.tm t) else .any := fun t => tabV_map (fun t => s.ren K (s.tm t)) K.ts t
    have hgm : ∀ {k g}, (E.keep K).gm k = some g → E.gm k = some g := fun {k g} hk => by
      simp only [Env.keep] at hk; split at hk
      · exact hk
      · cases hk
    have hrm : ∀ {k ver z u}, (E.keep K).rm k = some (ver, z, u) → ∃ ver', E.rm k = some (ver', z, u) := fun {k ver z u} hk => by
      simp only [Env.keep] at hk; split at hk
      · cases hx : E.rm k with
        | none => rw [hx] at hk; cases hk
        | some x => obtain ⟨x1, x2, x3⟩ := x; rw [hx] at hk; simp at hk; obtain ⟨_, rfl, rfl⟩ := hk; exact ⟨x1, rfl⟩
      · cases hk
    refine ⟨h.size, h.defers, fun t => ?_, fun k cs hk => ?_, fun k hk => ?_, fun k r hk => ?_, fun k hk => ?_, fun k k' g h1 h2 => h.ginj k k' g (hgm h1) (hgm h2), fun k g k' ver z u h1 h2 => ?_, fun k ver z u k' ver' z' u' b h1 h2 => ?_, fun k g h1 => h.gfr k g (hgm h1), fun k g hk h1 => h.gx k g hk (hgm h1), h.nx, fun k ver z u b h1 hb => (hrm h1).elim fun v' h2 => h.rfr k v' z u b h2 hb, fun k z u hk h1 => ?_, h.frame⟩
    · rw [htm]; split
      · exact ren_vrel h K (h.tm t)
      · exact .any
    · rw [hbx] at hk
      split at hk
      · rename_i hin
        cases hx : s.bx k with
        | none => rw [hx] at hk; cases hk
        | some cs0 =>
          rw [hx] at hk; simp at hk; subst hk
          obtain ⟨g, cur, ty, h1, h2, h3⟩ := h.bx k cs0 hx
          refine ⟨g, cur, ty, by simp [Env.keep, hin, h1], h2, by simpa using h3.1, fun i c u h4 h5 => ?_⟩
          rw [List.getElem?_map] at h4
          cases hi : cs0[i]? with
          | none => rw [hi] at h4; cases h4
          | some c0 => rw [hi] at h4; simp at h4; subst h4; exact ren_rel h K (h3.2 i c0 u hi h5)
      · cases hk
    · rw [hbx] at hk
      simp only [Env.keep]
      split at hk
      · rename_i hin
        rw [if_pos hin]
        exact h.bxn k (by simpa using hk)
      · rename_i hin; rw [if_neg hin]
    · rw [hrw] at hk
      split at hk
      · rename_i hin
        cases hx : s.rw k with
        | none => rw [hx] at hk; cases hk
        | some r0 =>
          rw [hx] at hk; simp at hk; subst hk
          obtain ⟨h1, h2, u, vs, h3, h4, h5⟩ := h.rw k r0 hx
          exact ⟨fun h0 => by show K.q k r0.ver = 0; rw [h1 h0]; exact hq0 k, h2, u, vs, by simp [Env.keep, hin, h3], h4, h5.move (.refl _ w) (fun b _ ho => okE_keep K ho) (Nat.le_refl _)⟩
      · cases hk
    · rw [hrw] at hk
      simp only [Env.keep]
      split at hk
      · rename_i hin
        rw [if_pos hin, h.rwn k (by simpa using hk)]; rfl
      · rename_i hin; rw [if_neg hin]
    · obtain ⟨v', h3⟩ := hrm h2; exact h.gr k g k' v' z u (hgm h1) h3
    · obtain ⟨v1, h3⟩ := hrm h1; obtain ⟨v2, h4⟩ := hrm h2; exact h.rr k v1 z u k' v2 z' u' b h3 h4
    · simp only [Env.keep] at h1; split at h1
      · cases hx : E.rm k with
        | none => rw [hx] at h1; cases h1
        | some x =>
          obtain ⟨x1, x2, x3⟩ := x
          rw [hx] at h1; simp at h1
          obtain ⟨h2, rfl, rfl⟩ := h1
          rcases hq with hq | hq
          · have h3 := hq k x1 hk h2
            subst h3
            exact h.rst k _ _ hk hx
          · exact hq _ _
      · cases h1

theorem St.keep (h : St w0 okA ext N s a w E) (Ko : Option Keep) : ∃ E', St w0 okA ext N (s.keep Ko) a w E' := by
  cases Ko with
  | none => exact ⟨E, h⟩
  | some K => exact ⟨_, h.keepE (K.at kv) (.inl fun k v hk hv => by
    have hv : kv k v = 0 := hv
    unfold kv at hv; rw [if_neg (by omega)] at hv; omega) (fun k => by show kv k 0 = 0; unfold kv; split <;> rfl)⟩
/-- What the rows were is asked no more. -/
theorem St.free (h : St w0 okA ext N s a w E) : St w0 okA ⟨ext.blk, ext.gk, ext.rk, fun _ _ => True⟩ N s a w E :=
  ⟨h.size, h.defers, h.tm, h.bx, h.bxn, h.rw, h.rwn, h.ginj, h.gr, h.rr, h.gfr, h.gx, h.nx, h.rfr, fun _ _ _ _ _ => trivial, h.frame⟩

/-! ### What a callee sees -/
theorem CRel.toD {c : Cel} {v : Value} {ok ok' : Nat → Prop} {base : Nat} (h : St w0 okA ext N s a w E) (hc : CRel w ok base E c v) (hok : ∀ b, ok b → ok' b) (hw : ∀ b, okE w0 okA E b → ok' b) (hrow : ∀ k ver z u b, E.rm k = some (ver, z, u) → (blkV u) = some b → ok' b) : DRel w ok' (s.dataV c) v := by
  have hone := hc.oneC
  cases c with
  | g u => obtain ⟨rfl, h1⟩ := hc; exact .g h1
  | sl fr z es =>
    have h2 : DRel w ok' (.sl fr z es) v := by
      cases fr with
      | false => exact DRel.keep hc (.refl _ w) (fun b _ h => hok b h)
      | true => exact DRel.keep (ok := fun b => base ≤ b ∧ ok b) hc (.refl _ w) (fun b _ h => hok b h.2)
    simp only [AS.dataV]
    cases h2 with
    | nil => exact .nil
    | sl us h1 h2 h3 h4 h5 h6 h7 => exact .sl us h1 h2 h3 h4 h5 h6 h7
  | ow k ver =>
    simp only [AS.dataV]
    cases hs : s.rw k with
    | none => exact .any hone
    | some r =>
      simp only []
      split
      · rename_i hver
        obtain ⟨h1, ver', z, u, hr, hle, hv, hzp⟩ := hc
        obtain ⟨_, h2, u', vs, hu', h3, h4⟩ := h.rwS hs (h.zpos hs hr hzp)
        rw [hr] at hu'
        simp only [Option.some.injEq, Prod.mk.injEq] at hu'
        obtain ⟨rfl, rfl, rfl⟩ := hu'
        rw [hv hver]
        exact row_data h2 h3 rfl h4 hw (fun b hb => hrow k _ _ _ b hr hb)
      · exact .any hone
  | _ => exact .any hone

theorem DRel.toC0 {c : Cel} {v : Value} {ok : Nat → Prop} {base : Nat} {E' : Env} (h : DRel w ok c v) (hc : ∀ fr z es, c = .sl fr z es → fr = false) : CRel0 w ok base E' c v := by
  cases h with
  | g hv => exact ⟨rfl, hv⟩
  | any hv => exact hv
  | nil => have := hc _ _ _ rfl; subst this; exact DRel.nil
  | sl us h1 h2 h3 h4 h5 h6 h7 => have := hc _ _ _ rfl; subst this; exact DRel.sl us h1 h2 h3 h4 h5 h6 h7

theorem view_rel0 (h : St w0 okA ext N s a w E) {c : Cel} {v : Value} {ok ok' : Nat → Prop} {base base' : Nat} {E' : Env} (hc : CRel0 w ok base E c v) (hok : ∀ b, ok b → ok' b) (hw : ∀ b, okE w0 okA E b → ok' b)
    (hrow : ∀ k ver z u b, s.rw k ≠ none → E.rm k = some (ver, z, u) → (blkV u) = some b → ok' b) (hbox : ∀ k g, s.bx k ≠ none → E.gm k = some g → ok' g) :
    CRel0 w ok' base' E' (s.viewC0 c) v := by
  have hrow' : ∀ k ver z u b, E.rm k = some (ver, z, u) → (blkV u) = some b → ok' b := fun k ver z u b hr hb => by
    by_cases hs : s.rw k = none
    · rw [h.rwn k hs] at hr; cases hr
    · exact hrow k ver z u b hs hr hb
  have hone := hc.oneC
  cases c with
  | g u => exact hc
  | sl fr z es => exact (CRel.toD (ok' := ok') (base := base) h (c := .sl fr z es) hc hok hw hrow').toC0 (by intro fr z es he; simp [AS.dataV] at he; exact he.1)
  | ep cs =>
    obtain ⟨b, off, us, rfl, ho, hlt, hcs⟩ := hc
    exact ⟨b, off, us, rfl, hok b ho, hlt, fun j x hx => ⟨(hcs j x hx).1, (hcs j x hx).2.keep (.refl _ w) (fun b _ h => hok b h)⟩⟩
  | bx k off =>
    simp only [AS.viewC0]
    cases hs : s.bx k with
    | none => exact hone
    | some cs =>
      obtain ⟨g, hg, rfl⟩ := hc
      obtain ⟨g', cur, ty, h1, h2, h3⟩ := h.bx k cs hs
      rw [hg] at h1; injection h1 with h1; subst h1
      refine ⟨g, off, fun j => (cur.toList[off + j]?).getD undef, rfl, hbox k g (by simp [hs]) hg, h.glt hg, fun j x hx => ?_⟩
      rw [List.getElem?_map] at hx
      cases hi : (cs.drop off)[j]? with
      | none => rw [hi] at hx; cases hx
      | some c0 =>
        rw [hi] at hx; simp at hx; subst hx
        rw [List.getElem?_drop] at hi
        obtain ⟨u, h4, h5⟩ := h3.at_ hi
        refine ⟨?_, ?_⟩
        · rw [cell_of_row w g (off + j) cur ty (0, 0) h2, ← Array.getElem?_toList, h4]; simp only [h4, Option.getD_some]
        · simp only [h4, Option.getD_some]; exact CRel.toD h h5 hw hw hrow'
  | ow k ver =>
    simp only [AS.viewC0]
    cases hs : s.rw k with
    | none => exact hone
    | some r =>
      simp only []
      split
      · rename_i hver
        have h6 := CRel.toD (ok := ok) (ok' := ok') (base := base) h (c := .ow k ver) hc hok hw hrow'
        simp only [AS.dataV, hs, hver, if_true] at h6
        exact h6.toC0 (by intro fr z es he; injection he with h1 _; exact h1.symm)
      · exact hone
  | op k ver i off =>
    simp only [AS.viewC0]
    cases hs : s.rw k with
    | none => exact hone
    | some r =>
      simp only []
      split
      · rename_i hver
        cases he : r.es[i]? with
        | none => exact hone
        | some e =>
          obtain ⟨h1, ver', z, u, hr, hle, hv, hzp⟩ := hc
          obtain ⟨_, h2, u', vs, hu', h3, h5⟩ := h.rwS hs (h.zpos hs hr hzp)
          rw [hr] at hu'
          simp only [Option.some.injEq, Prod.mk.injEq] at hu'
          obtain ⟨rfl, rfl, rfl⟩ := hu'
          obtain ⟨g, n, c, rfl, rfl⟩ := hv hver
          refine ⟨g, i * r.z + off, fun j => vs.getD (i * r.z + (off + j)) undef, rfl, hrow k _ _ _ g (by simp [hs]) hr rfl, h.rlt hr rfl, fun j x hx => ?_⟩
          have hx' := hx
          rw [List.getElem?_drop] at hx'
          obtain ⟨h6, h7, h8⟩ := vs_at (n := 0) h2 h5 he hx'
          have h4 := h3.cells (g := g) rfl _ _ h6
          rw [add_none, Nat.zero_add, ← Nat.add_assoc] at h4
          exact ⟨by rw [h4, Nat.add_assoc], h8.toDR h7 hw⟩
      · exact hone
  | os k ver lo => exact hone
  | mp k => exact hone
  | fn f caps => exact hc.elim
  | any => exact hc
end
end Go.Ai

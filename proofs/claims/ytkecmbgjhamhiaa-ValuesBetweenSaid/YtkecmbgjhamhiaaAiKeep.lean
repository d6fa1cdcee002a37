/-
  The abstract layer: what is dropped behind a region; what a callee sees; what is handed back.
-/
import Derived.Test.YtkecmbgjhamhiaaAiTurn
namespace Go.Ai
open Go

theorem tabO_filterMap {α β : Type} (f : Nat → Option α) (g : Nat → α → β) : ∀ (ks : List Nat) (k : Nat),
    tabO (ks.filterMap fun j => (f j).map fun x => (j, g j x)) k = if k ∈ ks then (f k).map (g k) else none
  | [], k => by simp [tabO]
  | j :: ks, k => by
    have ih := tabO_filterMap f g ks k
    simp only [List.filterMap_cons]
    cases hj : f j with
    | none =>
      simp only [Option.map_none, ih, List.mem_cons]
      by_cases e : k = j
      · subst e; simp [hj]
      · simp [e]
    | some x =>
      simp only [Option.map_some, tabO, ih, List.mem_cons]
      by_cases e : k = j
      · subst e; simp [hj]
      · simp [e]

section
variable {w0 w w' : World} {okA : Nat → Prop} {ext : Option Nat} {N : Nat} {s : AS} {a : Act} {E : Env}

def Env.keep (E : Env) (K : Keep) : Env := ⟨fun k => if k ∈ K.bs then E.gm k else Option.none, fun k => if k ∈ K.rs then (E.rm k).map (fun x => (0, x.2)) else Option.none⟩

theorem okE_keep {b : Nat} (K : Keep) (h : okE w0 okA E b) : okE w0 okA (E.keep K) b := by
  refine ⟨fun k => ?_, fun k ver z u hr => ?_, h.2.2⟩
  · simp only [Env.keep]; split
    · exact h.1 k
    · simp
  · simp only [Env.keep] at hr
    split at hr
    · cases hk : E.rm k with
      | none => rw [hk] at hr; simp at hr
      | some x => obtain ⟨x1, x2, x3⟩ := x; rw [hk] at hr; simp at hr; obtain ⟨_, _, rfl⟩ := hr; exact h.2.1 k x1 x2 x3 hk
    · cases hr

theorem ren_rel0 (h : St w0 okA ext N s a w E) (K : Keep) {c : Cel} {v : Value} (hc : CRel0 w (okE w0 okA E) w0.heap.size E c v) :
    CRel0 w (okE w0 okA (E.keep K)) w0.heap.size (E.keep K) (s.renC K c) v := by
  have hk : Keeps (okE w0 okA E) w w := .refl _ w
  cases c with
  | g u => exact hc
  | sl fr z es =>
    cases fr with
    | false => exact DRel.keep hc hk (fun b _ ho => okE_keep K ho)
    | true => exact DRel.keep (ok' := fun b => w0.heap.size ≤ b ∧ okE w0 okA (E.keep K) b) hc (.refl _ w) (fun b _ ho => ⟨ho.1, okE_keep K ho.2⟩)
  | ep cs =>
    obtain ⟨b, off, us, rfl, ho, hlt, hcs⟩ := hc
    exact ⟨b, off, us, rfl, okE_keep K ho, hlt, fun j x hx => ⟨(hcs j x hx).1, (hcs j x hx).2.keep hk (fun b _ ho => okE_keep K ho)⟩⟩
  | bx k off =>
    simp only [AS.renC]
    split
    · obtain ⟨g, hg, rfl⟩ := hc
      rename_i hin
      exact ⟨g, by simp [Env.keep, hin, hg], rfl⟩
    · obtain ⟨g, hg, rfl⟩ := hc; rfl
  | ow k ver =>
    simp only [AS.renC]
    split
    · rename_i hin
      obtain ⟨h1, ver', z, u, hr, hle, hv⟩ := hc
      cases hs : s.rw k with
      | none => exact h1
      | some r =>
        simp only []
        split
        · rename_i hver
          obtain ⟨_, _, u', hu', _⟩ := h.rw k r hs
          rw [hr] at hu'
          simp only [Option.some.injEq, Prod.mk.injEq] at hu'
          obtain ⟨rfl, rfl, rfl⟩ := hu'
          exact ⟨h1, 0, r.z, u, by simp [Env.keep, hin, hr], Nat.le_refl _, fun _ => hv hver⟩
        · exact h1
    · exact hc.1
  | op k ver i off =>
    simp only [AS.renC]
    split
    · rename_i hin
      obtain ⟨h1, ver', z, u, hr, hle, hv⟩ := hc
      cases hs : s.rw k with
      | none => exact h1
      | some r =>
        simp only []
        split
        · rename_i hver
          obtain ⟨_, _, u', hu', _⟩ := h.rw k r hs
          rw [hr] at hu'
          simp only [Option.some.injEq, Prod.mk.injEq] at hu'
          obtain ⟨rfl, rfl, rfl⟩ := hu'
          exact ⟨h1, 0, r.z, u, by simp [Env.keep, hin, hr], Nat.le_refl _, fun _ => hv hver⟩
        · exact h1
    · exact hc.1
  | fn f caps => exact hc.elim
  | any => exact hc

theorem ren_rel (h : St w0 okA ext N s a w E) (K : Keep) {c : Cel} {v : Value} (hc : CRel w (okE w0 okA E) w0.heap.size E c v) :
    CRel w (okE w0 okA (E.keep K)) w0.heap.size (E.keep K) (s.renC K c) v := by
  have key : ∀ {c}, CRel0 w (okE w0 okA (E.keep K)) w0.heap.size (E.keep K) c v → CRel w (okE w0 okA (E.keep K)) w0.heap.size (E.keep K) c v := fun {c} h => by
    cases c <;> first | exact h | exact h.elim
  cases c with
  | fn f caps =>
    simp only [AS.renC]
    split
    · rename_i hall
      obtain ⟨us, rfl, hl, hcs⟩ := hc
      refine ⟨us, rfl, hl, fun i c u h1 h2 => ?_⟩
      have h3 := hcs i c u h1 h2
      have h4 := (List.all_eq_true.1 hall) c (List.mem_of_getElem? h1)
      cases c with
      | bx k off =>
        obtain ⟨g, hg, rfl⟩ := h3
        have h5 : k ∈ K.bs := by simpa using h4
        exact ⟨g, by simp [Env.keep, h5, hg], rfl⟩
      | g u => exact h3
      | _ => simp at h4
    · obtain ⟨us, rfl, _⟩ := hc; rfl
  | g u => exact key (ren_rel0 h K (c := .g u) hc)
  | sl fr z es => exact key (ren_rel0 h K (c := .sl fr z es) hc)
  | ep cs => exact key (ren_rel0 h K (c := .ep cs) hc)
  | bx k off => exact key (ren_rel0 h K (c := .bx k off) hc)
  | ow k ver => exact key (ren_rel0 h K (c := .ow k ver) hc)
  | op k ver i off => exact key (ren_rel0 h K (c := .op k ver i off) hc)
  | any => exact key (ren_rel0 h K (c := .any) hc)

theorem ren_vrel (h : St w0 okA ext N s a w E) (K : Keep) {x : Val} {v : Value} (hc : VRel w (okE w0 okA E) w0.heap.size E x v) :
    VRel w (okE w0 okA (E.keep K)) w0.heap.size (E.keep K) (s.ren K x) v := by
  cases hc with
  | one h1 => exact .one (ren_rel h K h1)
  | ag h1 =>
    refine .ag ⟨by simpa using h1.1, fun i c u h2 h3 => ?_⟩
    rw [List.getElem?_map] at h2
    cases hi : (_ : List Cel)[i]? with
    | none => rw [hi] at h2; cases h2
    | some c0 => rw [hi] at h2; simp at h2; subst h2; exact ren_rel h K (h1.2 i c0 u hi h3)
  | tu => exact .any
  | any => exact .any

theorem tabV_map (f : Nat → Val) : ∀ (ks : List Nat) (t : Nat), tabV (ks.map fun t => (t, f t)) t = if t ∈ ks then f t else .any
  | [], t => rfl
  | k :: ks, t => by
    simp only [List.map_cons, tabV, tabV_map f ks t, List.mem_cons]
    by_cases e : t = k
    · subst e; simp
    · simp [e]

theorem St.keep (h : St w0 okA ext N s a w E) (Ko : Option Keep) : ∃ E', St w0 okA ext N (s.keep Ko) a w E' := by
  cases Ko with
  | none => exact ⟨E, h⟩
  | some K =>
    have hbx : ∀ k, (s.keep (some K)).bx k = if k ∈ K.bs then (s.bx k).map (fun cs => cs.map (s.renC K)) else none := fun k => tabO_filterMap s.bx (fun _ cs => cs.map (s.renC K)) K.bs k
    have hrw : ∀ k, (s.keep (some K)).rw k = if k ∈ K.rs then (s.rw k).map (fun r => { r with ver := 0 }) else none := fun k => tabO_filterMap (β := Row) s.rw (fun _ r => { r with ver := 0 }) K.rs k
    have htm : ∀ t, (s.keep (some K)).tm t = if t ∈ K.ts then s.ren K (s.tm t) else .any := fun t => tabV_map (fun t => s.ren K (s.tm t)) K.ts t
    have hgm : ∀ {k g}, (E.keep K).gm k = some g → E.gm k = some g := fun {k g} hk => by
      simp only [Env.keep] at hk; split at hk
      · exact hk
      · cases hk
    have hrm : ∀ {k ver z u}, (E.keep K).rm k = some (ver, z, u) → ∃ ver', E.rm k = some (ver', z, u) := fun {k ver z u} hk => by
      simp only [Env.keep] at hk; split at hk
      · cases hx : E.rm k with
        | none => rw [hx] at hk; cases hk
        | some x => obtain ⟨x1, x2, x3⟩ := x; rw [hx] at hk; simp at hk; obtain ⟨_, rfl, rfl⟩ := hk; exact ⟨x1, rfl⟩
      · cases hk
    refine ⟨E.keep K, h.size, h.defers, fun t => ?_, fun k cs hk => ?_, fun k hk => ?_, fun k r hk => ?_, fun k hk => ?_, fun k k' g h1 h2 => h.ginj k k' g (hgm h1) (hgm h2), fun k g k' ver z u h1 h2 => ?_, fun k ver z u k' ver' z' u' b h1 h2 => ?_, fun k g h1 => h.gfr k g (hgm h1), fun g h1 => h.g0 g (hgm h1), h.frame⟩
    · rw [htm]; split
      · exact ren_vrel h K (h.tm t)
      · exact .any
    · rw [hbx] at hk
      split at hk
      · rename_i hin
        cases hx : s.bx k with
        | none => rw [hx] at hk; cases hk
        | some cs0 =>
          rw [hx] at hk; simp at hk; subst hk
          obtain ⟨g, cur, ty, h1, h2, h3⟩ := h.bx k cs0 hx
          refine ⟨g, cur, ty, by simp [Env.keep, hin, h1], h2, by simpa using h3.1, fun i c u h4 h5 => ?_⟩
          rw [List.getElem?_map] at h4
          cases hi : cs0[i]? with
          | none => rw [hi] at h4; cases h4
          | some c0 => rw [hi] at h4; simp at h4; subst h4; exact ren_rel h K (h3.2 i c0 u hi h5)
      · cases hk
    · rw [hbx] at hk
      simp only [Env.keep]
      split at hk
      · rename_i hin
        rw [if_pos hin]
        exact h.bxn k (by simpa using hk)
      · rename_i hin; rw [if_neg hin]
    · rw [hrw] at hk
      split at hk
      · rename_i hin
        cases hx : s.rw k with
        | none => rw [hx] at hk; cases hk
        | some r0 =>
          rw [hx] at hk; simp at hk; subst hk
          obtain ⟨h1, h2, u, h3, h4⟩ := h.rw k r0 hx
          exact ⟨h1, h2, u, by simp [Env.keep, hin, h3], h4⟩
      · cases hk
    · rw [hrw] at hk
      simp only [Env.keep]
      split at hk
      · rename_i hin
        rw [if_pos hin, h.rwn k (by simpa using hk)]; rfl
      · rename_i hin; rw [if_neg hin]
    · obtain ⟨v', h3⟩ := hrm h2; exact h.gr k g k' v' z u (hgm h1) h3
    · obtain ⟨v1, h3⟩ := hrm h1; obtain ⟨v2, h4⟩ := hrm h2; exact h.rr k v1 z u k' v2 z' u' b h3 h4

/-! ### What a callee sees -/
theorem add_none (g o n : Nat) : ((⟨g, o, none⟩ : Addr).add n) = ⟨g, o + n, none⟩ := by
  unfold Addr.add; split
  · rename_i h; subst h; rfl
  · rfl
theorem flatten_at {z : Nat} : ∀ {es : List (List Cel)}, (∀ e ∈ es, e.length = z) → ∀ {i j : Nat} {e : List Cel} {x : Cel}, es[i]? = some e → e[j]? = some x → es.flatten[i * z + j]? = some x
  | [], _, i, j, e, x, he, _ => by simp at he
  | e0 :: es, hz, 0, j, e, x, he, hx => by
    simp at he; subst he
    have hlt : j < e0.length := (List.getElem?_eq_some_iff.1 hx).1
    rw [List.flatten_cons, Nat.zero_mul, Nat.zero_add, List.getElem?_append, if_pos hlt]; exact hx
  | e0 :: es, hz, i + 1, j, e, x, he, hx => by
    simp at he
    have h0 : e0.length = z := hz e0 (by simp)
    have ih := flatten_at (es := es) (fun e h => hz e (by simp [h])) he hx
    have hge : ¬ (i + 1) * z + j < e0.length := by rw [h0, Nat.add_mul]; omega
    rw [List.flatten_cons, List.getElem?_append, if_neg hge, h0]
    rw [show (i + 1) * z + j - z = i * z + j by rw [Nat.add_mul]; omega]
    exact ih

theorem rowVals_at {z : Nat} {es : List (List Cel)} (hz : rowOk z es) {i j : Nat} {e : List Cel} {x : Cel} (he : es[i]? = some e) (hx : e[j]? = some x) : (rowVals es)[i * z + j]? = some x.val := by
  rw [rowVals, List.getElem?_map, flatten_at (fun e h => (hz e h).1) he hx]; rfl

/-- A row of the call's own reads as data, wherever its block may be looked at. -/
theorem row_data {base n : Nat} {E0 : TypeId} {z : Nat} {u : Value} {es : List (List Cel)} {fr : Bool} {ok : Nat → Prop} (hz : rowOk z es) (hown : w.ownsRow base E0 z u n (rowVals es)) (hn : n = es.length)
    (hok : ∀ b, u.ownBlock = some b → ok b) : DRel w ok (.sl fr z es) u := by
  subst hn
  rcases hown.2 with ⟨rfl, h0⟩ | ⟨g, cap, cur, rfl, hb, hg, hnc, hcm, hcs, htake⟩
  · have : es = [] := List.eq_nil_of_length_eq_zero h0
    subst this; exact .nil
  · have hlt : g < w.heap.size := by
      rcases Nat.lt_or_ge g w.heap.size with hl | hl
      · exact hl
      · rw [Array.getElem?_eq_none hl] at hg; cases hg
    refine .sl (fun i j => ((es[i]?.bind (·[j]?)).getD (.any)).val) rfl hnc (hok g rfl) hlt (fun e he => (hz e he).1) (fun i e j x he hx => ?_) (fun i e j x he hx => ?_)
    · have h1 := rowVals_at hz he hx
      have h2 := hown.cells (g := g) rfl _ _ h1
      rw [add_none, ← Nat.add_assoc] at h2
      simpa [he, hx] using h2
    · obtain ⟨v, rfl, hv⟩ := (hz e (List.mem_of_getElem? he)).2 x (List.mem_of_getElem? hx)
      simp only [he, Option.bind_some, hx, Option.getD_some, Cel.val]
      exact .g hv

theorem CRel.toD {c : Cel} {v : Value} {ok ok' : Nat → Prop} {base : Nat} (h : St w0 okA ext N s a w E) (hc : CRel w ok base E c v) (hok : ∀ b, ok b → ok' b) (hrow : ∀ k ver z u b, E.rm k = some (ver, z, u) → u.ownBlock = some b → ok' b) : DRel w ok' (s.dataV c) v := by
  have hone := hc.oneC
  cases c with
  | g u => obtain ⟨rfl, h1⟩ := hc; exact .g h1
  | sl fr z es =>
    have h2 : DRel w ok' (.sl fr z es) v := by
      cases fr with
      | false => exact DRel.keep hc (.refl _ w) (fun b _ h => hok b h)
      | true => exact DRel.keep (ok := fun b => base ≤ b ∧ ok b) hc (.refl _ w) (fun b _ h => hok b h.2)
    simp only [AS.dataV]
    cases h2 with
    | nil => exact .nil
    | sl us h1 h2 h3 h4 h5 h6 h7 => exact .sl us h1 h2 h3 h4 h5 h6 h7
  | ow k ver =>
    simp only [AS.dataV]
    cases hs : s.rw k with
    | none => exact .any hone
    | some r =>
      simp only []
      split
      · rename_i hver
        obtain ⟨h1, ver', z, u, hr, hle, hv⟩ := hc
        obtain ⟨_, h2, u', hu', h3⟩ := h.rw k r hs
        rw [hr] at hu'
        simp only [Option.some.injEq, Prod.mk.injEq] at hu'
        obtain ⟨rfl, rfl, rfl⟩ := hu'
        rw [hv hver]
        exact row_data h2 h3 rfl (fun b hb => hrow k _ _ _ b hr hb)
      · exact .any hone
  | _ => exact .any hone

theorem DRel.toC0 {c : Cel} {v : Value} {ok : Nat → Prop} {base : Nat} {E' : Env} (h : DRel w ok c v) (hc : ∀ fr z es, c = .sl fr z es → fr = false) : CRel0 w ok base E' c v := by
  cases h with
  | g hv => exact ⟨rfl, hv⟩
  | any hv => exact hv
  | nil => have := hc _ _ _ rfl; subst this; exact DRel.nil
  | sl us h1 h2 h3 h4 h5 h6 h7 => have := hc _ _ _ rfl; subst this; exact DRel.sl us h1 h2 h3 h4 h5 h6 h7

theorem view_rel0 (h : St w0 okA ext N s a w E) {c : Cel} {v : Value} {ok ok' : Nat → Prop} {base base' : Nat} {E' : Env} (hc : CRel0 w ok base E c v) (hok : ∀ b, ok b → ok' b) (hw : ∀ b, okE w0 okA E b → ok' b)
    (hrow : ∀ k ver z u b, s.rw k ≠ none → E.rm k = some (ver, z, u) → u.ownBlock = some b → ok' b) (hbox : ∀ k g, s.bx k ≠ none → E.gm k = some g → ok' g) :
    CRel0 w ok' base' E' (s.viewC0 c) v := by
  have hrow' : ∀ k ver z u b, E.rm k = some (ver, z, u) → u.ownBlock = some b → ok' b := fun k ver z u b hr hb => by
    by_cases hs : s.rw k = none
    · rw [h.rwn k hs] at hr; cases hr
    · exact hrow k ver z u b hs hr hb
  have hone := hc.oneC
  cases c with
  | g u => exact hc
  | sl fr z es => exact (CRel.toD (ok' := ok') (base := base) h (c := .sl fr z es) hc hok hrow').toC0 (by intro fr z es he; simp [AS.dataV] at he; exact he.1)
  | ep cs =>
    obtain ⟨b, off, us, rfl, ho, hlt, hcs⟩ := hc
    exact ⟨b, off, us, rfl, hok b ho, hlt, fun j x hx => ⟨(hcs j x hx).1, (hcs j x hx).2.keep (.refl _ w) (fun b _ h => hok b h)⟩⟩
  | bx k off =>
    simp only [AS.viewC0]
    cases hs : s.bx k with
    | none => exact hone
    | some cs =>
      obtain ⟨g, hg, rfl⟩ := hc
      obtain ⟨g', cur, ty, h1, h2, h3⟩ := h.bx k cs hs
      rw [hg] at h1; injection h1 with h1; subst h1
      refine ⟨g, off, fun j => (cur.toList[off + j]?).getD undef, rfl, hbox k g (by simp [hs]) hg, h.glt hg, fun j x hx => ?_⟩
      rw [List.getElem?_map] at hx
      cases hi : (cs.drop off)[j]? with
      | none => rw [hi] at hx; cases hx
      | some c0 =>
        rw [hi] at hx; simp at hx; subst hx
        rw [List.getElem?_drop] at hi
        obtain ⟨u, h4, h5⟩ := h3.at_ hi
        refine ⟨?_, ?_⟩
        · rw [cell_of_row w g (off + j) cur ty (0, 0) h2, ← Array.getElem?_toList, h4]; simp only [h4, Option.getD_some]
        · simp only [h4, Option.getD_some]; exact CRel.toD h h5 hw hrow'
  | ow k ver =>
    simp only [AS.viewC0]
    cases hs : s.rw k with
    | none => exact hone
    | some r =>
      simp only []
      split
      · rename_i hver
        have h6 := CRel.toD (ok := ok) (ok' := ok') (base := base) h (c := .ow k ver) hc hok hrow'
        simp only [AS.dataV, hs, hver, if_true] at h6
        exact h6.toC0 (by intro fr z es he; injection he with h1 _; exact h1.symm)
      · exact hone
  | op k ver i off =>
    simp only [AS.viewC0]
    cases hs : s.rw k with
    | none => exact hone
    | some r =>
      simp only []
      split
      · rename_i hver
        cases he : r.es[i]? with
        | none => exact hone
        | some e =>
          obtain ⟨h1, ver', z, u, hr, hle, hv⟩ := hc
          obtain ⟨_, h2, u', hu', h3⟩ := h.rw k r hs
          rw [hr] at hu'
          simp only [Option.some.injEq, Prod.mk.injEq] at hu'
          obtain ⟨rfl, rfl, rfl⟩ := hu'
          obtain ⟨g, n, c, rfl, rfl⟩ := hv hver
          refine ⟨g, i * r.z + off, fun j => ((e.drop off)[j]?.getD .any).val, rfl, hrow k _ _ _ g (by simp [hs]) hr rfl, (h.rlt hr rfl).2, fun j x hx => ?_⟩
          have hx' := hx
          rw [List.getElem?_drop] at hx'
          have h4 := h3.cells (g := g) rfl _ _ (rowVals_at h2 he hx')
          rw [add_none, Nat.zero_add, ← Nat.add_assoc] at h4
          obtain ⟨v, rfl, hv'⟩ := (h2 e (List.mem_of_getElem? he)).2 x (List.mem_of_getElem? hx')
          simp only [hx, Option.getD_some]
          exact ⟨h4, .g hv'⟩
      · exact hone
  | fn f caps => exact hc.elim
  | any => exact hc
end
end Go.Ai

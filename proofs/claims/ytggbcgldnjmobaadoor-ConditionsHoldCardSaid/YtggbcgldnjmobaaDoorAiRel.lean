/-
  The abstract layer: what the relation between the abstract and the loaded state keeps over each kind of step.
-/
import Derived.Test.YtggbcgldnjmobaaDoorAiDef
namespace Go.Ai
open Go
set_option linter.unusedSimpArgs false
set_option linter.unusedVariables false

/-- w' is w on the blocks that are ok. -/
def Keeps (ok : Nat → Prop) (w w' : World) : Prop := w.heap.size ≤ w'.heap.size ∧ ∀ b, b < w.heap.size → ok b → w'.heap[b]? = w.heap[b]?

theorem Keeps.refl (ok : Nat → Prop) (w : World) : Keeps ok w w := ⟨Nat.le_refl _, fun _ _ _ => rfl⟩
theorem Keeps.cell {ok : Nat → Prop} {w w' : World} (h : Keeps ok w w') {b i : Nat} (hb : b < w.heap.size) (hok : ok b) : w'.cell? ⟨b, i, none⟩ = w.cell? ⟨b, i, none⟩ :=
  World.cell?_of_block (w := w) (h.2 b hb hok)
theorem Keeps.of_grown {ok : Nat → Prop} {w w' : World} (h : w.grownBy w' none) : Keeps ok w w' := ⟨h.size, fun b hb _ => h.block b hb (by simp)⟩

theorem DRel.keep {w w' : World} {ok ok' : Nat → Prop} {c : Cel} {v : Value} (h : DRel w ok c v) (hk : Keeps ok w w') (hok : ∀ b, b < w.heap.size → ok b → ok' b) : DRel w' ok' c v := by
  induction h with
  | g hv => exact .g hv
  | any hv => exact .any hv
  | nil => exact .nil
  | sl us hn hc hb hlt hz hcell _ ih =>
    exact .sl us hn hc (hok _ hlt hb) (Nat.lt_of_lt_of_le hlt hk.1) hz (fun i e j x he hx => (hk.cell hlt hb).trans (hcell i e j x he hx)) ih

theorem DRel.one {w : World} {ok : Nat → Prop} {c : Cel} {v : Value} (h : DRel w ok c v) : v.oneCell' = true := by
  cases h with
  | g hv => exact hv
  | any hv => exact hv
  | nil => rfl
  | sl => rfl

structure EnvLe (E E' : Env) : Prop where
  gm : ∀ k g, E.gm k = some g → E'.gm k = some g
  rm : ∀ k ver z u, E.rm k = some (ver, z, u) → ∃ ver' u', E'.rm k = some (ver', z, u') ∧ ver ≤ ver' ∧ (ver = ver' ∨ z = 0 → u = u')
theorem EnvLe.refl (E : Env) : EnvLe E E := ⟨fun _ _ h => h, fun _ ver _ u h => ⟨ver, u, h, Nat.le_refl _, fun _ => rfl⟩⟩

section
variable {w w' : World} {ok ok' : Nat → Prop} {base base' : Nat} {E E' : Env}

theorem CRel0.move {c : Cel} {v : Value} (h : CRel0 w ok base E c v) (hk : Keeps ok w w') (hok : ∀ b, b < w.heap.size → ok b → ok' b) (hb : base' ≤ base) (hE : EnvLe E E') : CRel0 w' ok' base' E' c v := by
  cases c with
  | g u => exact h
  | sl fr z es =>
    cases fr with
    | false => exact DRel.keep h hk hok
    | true => exact DRel.keep (ok' := fun b => base' ≤ b ∧ ok' b) h ⟨hk.1, fun b hb ho => hk.2 b hb ho.2⟩ (fun b hlt ho => ⟨Nat.le_trans hb ho.1, hok b hlt ho.2⟩)
  | ep cs =>
    obtain ⟨b, off, us, rfl, ho, hlt, hc⟩ := h
    exact ⟨b, off, us, rfl, hok b hlt ho, Nat.lt_of_lt_of_le hlt hk.1, fun j x hx => ⟨(hk.cell hlt ho).trans (hc j x hx).1, (hc j x hx).2.keep hk hok⟩⟩
  | bx k off =>
    obtain ⟨g, hg, rfl⟩ := h
    exact ⟨g, hE.gm k g hg, rfl⟩
  | ow k ver =>
    obtain ⟨h1, ver', z, u, hr, hle, hv, hz⟩ := h
    obtain ⟨ver'', u', hr', hle', heq⟩ := hE.rm k ver' z u hr
    exact ⟨h1, ver'', z, u', hr', Nat.le_trans hle hle', fun he => by
      have h2 : ver' = ver'' := by omega
      rw [← heq (.inl h2)]; exact hv (by omega), hz⟩
  | op k ver i off =>
    obtain ⟨h1, ver', z, u, hr, hle, hv, hz⟩ := h
    obtain ⟨ver'', u', hr', hle', heq⟩ := hE.rm k ver' z u hr
    exact ⟨h1, ver'', z, u', hr', Nat.le_trans hle hle', fun he => by
      have h2 : ver' = ver'' := by omega
      rw [← heq (.inl h2)]; exact hv (by omega), hz⟩
  | os k ver lo =>
    obtain ⟨h1, ver', z, u, hr, hle, hv, hz⟩ := h
    obtain ⟨ver'', u', hr', hle', heq⟩ := hE.rm k ver' z u hr
    exact ⟨h1, ver'', z, u', hr', Nat.le_trans hle hle', fun he => by
      have h2 : ver' = ver'' := by omega
      rw [← heq (.inl h2)]; exact hv (by omega), hz⟩
  | mp k =>
    obtain ⟨h1, ver', u, hr, hv⟩ := h
    obtain ⟨ver'', u', hr', _, heq⟩ := hE.rm k ver' 0 u hr
    exact ⟨h1, ver'', u', hr', by rw [← heq (.inr rfl)]; exact hv⟩
  | fn f caps => exact h
  | any => exact h

theorem CRel.move {c : Cel} {v : Value} (h : CRel w ok base E c v) (hk : Keeps ok w w') (hok : ∀ b, b < w.heap.size → ok b → ok' b) (hb : base' ≤ base) (hE : EnvLe E E') : CRel w' ok' base' E' c v := by
  cases c with
  | fn f caps =>
    obtain ⟨us, rfl, hl, hc⟩ := h
    exact ⟨us, rfl, hl, fun i c u h1 h2 => (hc i c u h1 h2).move hk hok hb hE⟩
  | g u => exact CRel0.move (c := .g u) h hk hok hb hE
  | sl fr z es => exact CRel0.move (c := .sl fr z es) h hk hok hb hE
  | ep cs => exact CRel0.move (c := .ep cs) h hk hok hb hE
  | bx k off => exact CRel0.move (c := .bx k off) h hk hok hb hE
  | ow k ver => exact CRel0.move (c := .ow k ver) h hk hok hb hE
  | op k ver i off => exact CRel0.move (c := .op k ver i off) h hk hok hb hE
  | os k ver lo => exact CRel0.move (c := .os k ver lo) h hk hok hb hE
  | mp k => exact CRel0.move (c := .mp k) h hk hok hb hE
  | any => exact CRel0.move (c := .any) h hk hok hb hE

theorem CsRel.move {cs : List Cel} {us : List Value} (h : CsRel w ok base E cs us) (hk : Keeps ok w w') (hok : ∀ b, b < w.heap.size → ok b → ok' b) (hb : base' ≤ base) (hE : EnvLe E E') : CsRel w' ok' base' E' cs us :=
  ⟨h.1, fun i c u h1 h2 => (h.2 i c u h1 h2).move hk hok hb hE⟩

theorem VRel.move {x : Val} {v : Value} (h : VRel w ok base E x v) (hk : Keeps ok w w') (hok : ∀ b, b < w.heap.size → ok b → ok' b) (hb : base' ≤ base) (hE : EnvLe E E') : VRel w' ok' base' E' x v := by
  induction h with
  | one hc => exact .one (hc.move hk hok hb hE)
  | ag hc => exact .ag (hc.move hk hok hb hE)
  | tu hl _ ih => exact .tu hl ih
  | any => exact .any

theorem CRel0.oneC {c : Cel} {v : Value} (h : CRel0 w ok base E c v) : v.oneCell' = true := by
  cases c with
  | g u => obtain ⟨rfl, h⟩ := h; exact h
  | sl fr z es => exact DRel.one h
  | ep cs => obtain ⟨b, off, us, rfl, _⟩ := h; rfl
  | bx k off => obtain ⟨g, _, rfl⟩ := h; rfl
  | ow k ver => exact h.1
  | op k ver i off => exact h.1
  | os k ver lo => exact h.1
  | mp k => exact h.1
  | fn f caps => exact h.elim
  | any => exact h
theorem CRel.oneC {c : Cel} {v : Value} (h : CRel w ok base E c v) : v.oneCell' = true := by
  cases c with
  | fn f caps => obtain ⟨us, rfl, _⟩ := h; rfl
  | g u => obtain ⟨rfl, h⟩ := h; exact h
  | sl fr z es => exact CRel0.oneC (w := w) (ok := ok) (base := base) (E := E) (c := .sl fr z es) h
  | ep cs => exact CRel0.oneC (w := w) (ok := ok) (base := base) (E := E) (c := .ep cs) h
  | bx k off => exact CRel0.oneC (w := w) (ok := ok) (base := base) (E := E) (c := .bx k off) h
  | ow k ver => exact CRel0.oneC (w := w) (ok := ok) (base := base) (E := E) (c := .ow k ver) h
  | op k ver i off => exact CRel0.oneC (w := w) (ok := ok) (base := base) (E := E) (c := .op k ver i off) h
  | os k ver lo => exact CRel0.oneC (w := w) (ok := ok) (base := base) (E := E) (c := .os k ver lo) h
  | mp k => exact CRel0.oneC (w := w) (ok := ok) (base := base) (E := E) (c := .mp k) h
  | any => exact CRel0.oneC (w := w) (ok := ok) (base := base) (E := E) (c := .any) h

theorem CsRel.ones {cs : List Cel} {us : List Value} (h : CsRel w ok base E cs us) : ∀ v ∈ us, v.oneCell' = true := by
  intro v hv
  obtain ⟨i, hi⟩ := List.getElem?_of_mem hv
  have hlt : i < us.length := (List.getElem?_eq_some_iff.1 hi).1
  exact (h.2 i (cs[i]'(by have := h.1; omega)) v (List.getElem?_eq_getElem _) hi).oneC

/-- The cells of a value. -/
theorem VRel.cells {x : Val} {v : Value} {cs : List Cel} (h : VRel w ok base E x v) (hc : vcells x = some cs) : CsRel w ok base E cs v.cells.toList := by
  cases h with
  | @one c v h1 =>
    simp only [vcells, Option.some.injEq] at hc
    subst hc
    have h2 : v.cells = #[v] := by
      have := h1.oneC
      cases v <;> first | rfl | (simp [Value.oneCell'] at this)
    rw [h2]
    refine ⟨rfl, fun i c' u h3 h4 => ?_⟩
    match i with
    | 0 => simp at h3 h4; subst h3; subst h4; exact h1
    | i + 1 => simp at h3
  | ag h1 =>
    simp only [vcells, Option.some.injEq] at hc
    subst hc
    exact h1
  | tu => simp [vcells] at hc
  | any => simp [vcells] at hc

theorem CsRel.take {cs : List Cel} {us : List Value} (h : CsRel w ok base E cs us) (n : Nat) : CsRel w ok base E (cs.take n) (us.take n) := by
  refine ⟨by simp [h.1], fun i c u h1 h2 => ?_⟩
  rw [List.getElem?_take] at h1 h2
  split at h1
  · rename_i hlt; rw [if_pos hlt] at h2; exact h.2 i c u h1 h2
  · cases h1
theorem CsRel.drop {cs : List Cel} {us : List Value} (h : CsRel w ok base E cs us) (n : Nat) : CsRel w ok base E (cs.drop n) (us.drop n) := by
  refine ⟨by simp [h.1], fun i c u h1 h2 => ?_⟩
  rw [List.getElem?_drop] at h1 h2
  exact h.2 _ c u h1 h2
theorem CsRel.append {cs ds : List Cel} {us vs : List Value} (h : CsRel w ok base E cs us) (k : CsRel w ok base E ds vs) : CsRel w ok base E (cs ++ ds) (us ++ vs) := by
  refine ⟨by simp [h.1, k.1], fun i c u h1 h2 => ?_⟩
  rw [List.getElem?_append] at h1 h2
  rw [← h.1] at h2
  split at h1
  · rename_i hlt; rw [if_pos hlt] at h2; exact h.2 i c u h1 h2
  · rename_i hlt; rw [if_neg hlt] at h2; exact k.2 _ c u h1 h2
theorem CsRel.nil : CsRel w ok base E [] [] := ⟨rfl, fun i c u h => by simp at h⟩
theorem CsRel.cons {c : Cel} {u : Value} {cs : List Cel} {us : List Value} (h : CRel w ok base E c u) (k : CsRel w ok base E cs us) : CsRel w ok base E (c :: cs) (u :: us) := by
  refine ⟨by simp [k.1], fun i c' u' h1 h2 => ?_⟩
  match i with
  | 0 => simp at h1 h2; subst h1; subst h2; exact h
  | i + 1 => simp at h1 h2; exact k.2 i c' u' h1 h2
theorem CsRel.uncons {c : Cel} {cs : List Cel} {us : List Value} (h : CsRel w ok base E (c :: cs) us) : ∃ u us', us = u :: us' ∧ CRel w ok base E c u ∧ CsRel w ok base E cs us' := by
  match us, h with
  | [], h => exact absurd h.1 (by simp)
  | u :: us', h => exact ⟨u, us', rfl, h.2 0 c u rfl rfl, ⟨by simpa using h.1, fun i c' u' h1 h2 => h.2 (i + 1) c' u' h1 h2⟩⟩
theorem CsRel.at_ {cs : List Cel} {us : List Value} (h : CsRel w ok base E cs us) {i : Nat} {c : Cel} (hc : cs[i]? = some c) : ∃ u, us[i]? = some u ∧ CRel w ok base E c u := by
  have hlt : i < cs.length := (List.getElem?_eq_some_iff.1 hc).1
  have hlt' : i < us.length := by have := h.1; omega
  exact ⟨us[i], List.getElem?_eq_getElem _, h.2 i c _ hc (List.getElem?_eq_getElem _)⟩
theorem CsRel.gs (zs : List Value) (h : ∀ v ∈ zs, v.oneCell' = true) : CsRel w ok base E (zs.map .g) zs := by
  induction zs with
  | nil => exact .nil
  | cons v zs ih => exact .cons (c := .g v) ⟨rfl, h v (by simp)⟩ (ih fun u hu => h u (by simp [hu]))
end

/-- The block of a slice's row, or of a map. -/
def blkV : Value → Option Nat
  | .map r => r
  | v => v.ownBlock
theorem blkV_slice {a : Option Addr} {n c : Nat} : blkV (.slice a n c) = (Value.slice a n c).ownBlock := rfl
theorem row_blkV {w : World} {base z n : Nat} {e : TypeId} {v : Value} {xs : List Value} (h : w.ownsRow base e z v n xs) : blkV v = v.ownBlock := by
  rcases h.2 with ⟨rfl, _⟩ | ⟨_, _, _, rfl, _⟩ <;> rfl
/-- A map's entries: their keys and values. -/
def ownsM (w : World) (base c : Nat) (v : Value) (n : Nat) (xs : List Value) : Prop :=
  ∃ b es clock, v = .map (some b) ∧ base ≤ b ∧ w.heap[b]? = some (.map es clock) ∧ es.size = n ∧ xs = (es.toList.map fun e => [e.key, e.val]).flatten ∧ ∀ e ∈ es.toList, keyOk c e.key = true
/-- What a row stands for: elements of a slice, or entries of a map (z = 0). -/
def owns (w : World) (base : Nat) (e : TypeId) (z : Nat) (v : Value) (n : Nat) (xs : List Value) : Prop :=
  (0 < z ∧ w.ownsRow base e z v n xs) ∨ (z = 0 ∧ ownsM w base e v n xs)
theorem owns.lt {w : World} {base z n : Nat} {e : TypeId} {v : Value} {xs : List Value} (h : owns w base e z v n xs) : ∀ k, blkV v = some k → base ≤ k ∧ k < w.heap.size := by
  intro k hk
  rcases h with ⟨_, h⟩ | ⟨_, b, es, clock, rfl, hb, hg, _⟩
  · rw [row_blkV h] at hk; exact h.lt k hk
  · simp only [blkV, Option.some.injEq] at hk; subst hk
    exact ⟨hb, (Array.getElem?_eq_some_iff.1 hg).1⟩
theorem owns.kept {w w' : World} {row : Option Nat} {base z n : Nat} {e : TypeId} {v : Value} {xs : List Value} (h : owns w base e z v n xs) (hg : w.grownBy w' row) (hne : blkV v = none ∨ blkV v ≠ row) : owns w' base e z v n xs := by
  rcases h with ⟨hz, h⟩ | ⟨hz, b, es, clock, rfl, hb, hgg, rest⟩
  · rw [row_blkV h] at hne; exact .inl ⟨hz, h.kept hg hne⟩
  · refine .inr ⟨hz, b, es, clock, rfl, hb, ?_, rest⟩
    rw [hg.block b (Array.getElem?_eq_some_iff.1 hgg).1 (by simpa [blkV] using hne)]
    exact hgg
theorem owns.alloc {w : World} {base z n : Nat} {e : TypeId} {v : Value} {xs : List Value} (h : owns w base e z v n xs) (o : Obj) : owns (w.alloc o) base e z v n xs :=
  h.kept (World.grownBy_alloc w o none) (by cases hv : blkV v <;> simp)
theorem owns.of_block {w w' : World} {base z n : Nat} {e : TypeId} {v : Value} {xs : List Value} (h : owns w base e z v n xs) (hb : ∀ b, blkV v = some b → w'.heap[b]? = w.heap[b]?) : owns w' base e z v n xs := by
  rcases h with ⟨hz, h⟩ | ⟨hz, b, es, clock, rfl, hb0, hgg, rest⟩
  · refine .inl ⟨hz, h.1, h.2.imp id ?_⟩
    rintro ⟨g, cap, cur, rfl, hb0, hcell, hrest⟩
    exact ⟨g, cap, cur, rfl, hb0, (hb g rfl).trans hcell, hrest⟩
  · exact .inr ⟨hz, b, es, clock, rfl, hb0, (hb b rfl).trans hgg, rest⟩
theorem owns.row {w : World} {base z n : Nat} {e : TypeId} {v : Value} {xs : List Value} (h : owns w base e z v n xs) (hz : 0 < z) : w.ownsRow base e z v n xs := by
  rcases h with ⟨_, h⟩ | ⟨h0, _⟩
  · exact h
  · omega
/-- A block of the call's own, or its box's: that is not to be looked at as data. -/
def okE (w0 : World) (okA : Nat → Prop) (E : Env) (b : Nat) : Prop :=
  (∀ k, E.gm k ≠ some b) ∧ (∀ k ver z u, E.rm k = some (ver, z, u) → (blkV u) ≠ some b) ∧ (w0.heap.size ≤ b ∨ okA b)

def rowOk (z : Nat) (es : List (List Cel)) : Prop := ∀ e ∈ es, e.length = z
/-- A map's entries: their keys are told. -/
def mapOk (es : List (List Cel)) : Prop := ∀ e ∈ es, ∃ k c, e = [.g k, c]
def rowOkZ (z : Nat) (es : List (List Cel)) : Prop := (0 < z → rowOk z es) ∧ (z = 0 → mapOk es)
theorem rowOkZ.of {z : Nat} {es : List (List Cel)} (hz : 0 < z) (h : rowOk z es) : rowOkZ z es := ⟨fun _ => h, fun h0 => by omega⟩
/-- Data cells, and what stands for them. -/
def RRel (w : World) (ok : Nat → Prop) (base : Nat) (cs : List Cel) (us : List Value) : Prop :=
  cs.length = us.length ∧ ∀ (i : Nat) (c : Cel) (u : Value), cs[i]? = some c → us[i]? = some u → c.isD = true ∧ CRel0 w ok base Env.none c u

section
variable {w w' : World} {ok ok' : Nat → Prop} {base base' : Nat} {E : Env}
theorem CRel0.ofD {c : Cel} {v : Value} {E' : Env} (hd : c.isD = true) (h : CRel0 w ok base E c v) : CRel0 w ok base E' c v := by
  cases c <;> first | exact h | (simp [Cel.isD] at hd)
theorem CRel.ofD {c : Cel} {v : Value} {E' : Env} (hd : c.isD = true) (h : CRel w ok base E c v) : CRel0 w ok base E' c v := by
  cases c <;> first | exact h | (simp [Cel.isD] at hd)
theorem CRel0.toC {c : Cel} {v : Value} (h : CRel0 w ok base E c v) : CRel w ok base E c v := by
  cases c <;> first | exact h | exact h.elim
theorem RRel.move {cs : List Cel} {us : List Value} (h : RRel w ok base cs us) (hk : Keeps ok w w') (hok : ∀ b, b < w.heap.size → ok b → ok' b) (hb : base' ≤ base) : RRel w' ok' base' cs us :=
  ⟨h.1, fun i c u h1 h2 => ⟨(h.2 i c u h1 h2).1, (h.2 i c u h1 h2).2.move hk hok hb (.refl _)⟩⟩
theorem RRel.nil : RRel w ok base [] [] := ⟨rfl, fun i c u h => by simp at h⟩
theorem RRel.append {cs ds : List Cel} {us vs : List Value} (h : RRel w ok base cs us) (k : RRel w ok base ds vs) : RRel w ok base (cs ++ ds) (us ++ vs) := by
  refine ⟨by simp [h.1, k.1], fun i c u h1 h2 => ?_⟩
  rw [List.getElem?_append] at h1 h2
  rw [← h.1] at h2
  split at h1
  · rename_i hlt; rw [if_pos hlt] at h2; exact h.2 i c u h1 h2
  · rename_i hlt; rw [if_neg hlt] at h2; exact k.2 _ c u h1 h2
theorem RRel.take {cs : List Cel} {us : List Value} (h : RRel w ok base cs us) (n : Nat) : RRel w ok base (cs.take n) (us.take n) := by
  refine ⟨by simp [h.1], fun i c u h1 h2 => ?_⟩
  rw [List.getElem?_take] at h1 h2
  split at h1
  · rename_i hlt; rw [if_pos hlt] at h2; exact h.2 i c u h1 h2
  · cases h1
theorem RRel.drop {cs : List Cel} {us : List Value} (h : RRel w ok base cs us) (n : Nat) : RRel w ok base (cs.drop n) (us.drop n) := by
  refine ⟨by simp [h.1], fun i c u h1 h2 => ?_⟩
  rw [List.getElem?_drop] at h1 h2
  exact h.2 _ c u h1 h2
theorem RRel.of {cs : List Cel} {us : List Value} (h : CsRel w ok base E cs us) (hd : ∀ c ∈ cs, c.isD = true) : RRel w ok base cs us :=
  ⟨h.1, fun i c u h1 h2 => ⟨hd c (List.mem_of_getElem? h1), (h.2 i c u h1 h2).ofD (hd c (List.mem_of_getElem? h1))⟩⟩
theorem RRel.toCs {cs : List Cel} {us : List Value} (h : RRel w ok base cs us) : CsRel w ok base E cs us :=
  ⟨h.1, fun i c u h1 h2 => ((h.2 i c u h1 h2).2.ofD (h.2 i c u h1 h2).1).toC⟩
theorem RRel.at_ {cs : List Cel} {us : List Value} (h : RRel w ok base cs us) {i : Nat} {c : Cel} (hc : cs[i]? = some c) : ∃ u, us[i]? = some u ∧ c.isD = true ∧ CRel0 w ok base Env.none c u := by
  have hlt : i < cs.length := (List.getElem?_eq_some_iff.1 hc).1
  have hlt' : i < us.length := by have := h.1; omega
  exact ⟨us[i], List.getElem?_eq_getElem _, h.2 i c _ hc (List.getElem?_eq_getElem _)⟩
theorem RRel.ones {cs : List Cel} {us : List Value} (h : RRel w ok base cs us) : ∀ v ∈ us, v.oneCell' = true := (h.toCs (E := Env.none)).ones
end

/-- What a call was handed of others: the blocks that it may turn. -/
structure Grew (X : Nat → Prop) (w w' : World) : Prop where
  os : w'.os = w.os
  tape : w'.tape = w.tape
  output : w'.output = w.output
  size : w.heap.size ≤ w'.heap.size
  block : ∀ k, k < w.heap.size → ¬ X k → w'.heap[k]? = w.heap[k]?
theorem Grew.refl (X : Nat → Prop) (w : World) : Grew X w w := ⟨rfl, rfl, rfl, Nat.le_refl _, fun _ _ _ => rfl⟩

/-- What was handed over: the blocks that may turn; the blocks of the boxes, by key. -/
structure Ext where
  blk : Nat → Prop
  gk : Nat → Option Nat
  rk : Nat → Nat → Prop
  r0 : Nat → Value → Prop

structure St (w0 : World) (okA : Nat → Prop) (ext : Ext) (N : Nat) (s : AS) (a : Act) (w : World) (E : Env) : Prop where
  size : a.tmps.size = N
  defers : a.defers = []
  tm : ∀ t, VRel w (okE w0 okA E) w0.heap.size E (s.tm t) (a.tmps.getD t undef)
  bx : ∀ k cs, s.bx k = some cs → ∃ g cur ty, E.gm k = some g ∧ w.heap[g]? = some (.cells cur ty (0, 0)) ∧ CsRel w (okE w0 okA E) w0.heap.size E cs cur.toList
  bxn : ∀ k, s.bx k = none → E.gm k = none
  rw : ∀ k r, s.rw k = some r → (r.z = 0 → r.ver = 0) ∧ rowOkZ r.z r.es ∧ ∃ u vs, E.rm k = some (r.ver, r.z, u) ∧ owns w 0 r.E r.z u r.es.length vs ∧ RRel w (okE w0 okA E) w0.heap.size r.es.flatten vs
  rwn : ∀ k, s.rw k = none → E.rm k = none
  ginj : ∀ k k' g, E.gm k = some g → E.gm k' = some g → k = k'
  gr : ∀ k g k' ver z u, E.gm k = some g → E.rm k' = some (ver, z, u) → (blkV u) ≠ some g
  rr : ∀ k ver z u k' ver' z' u' b, E.rm k = some (ver, z, u) → E.rm k' = some (ver', z', u') → (blkV u) = some b → (blkV u') = some b → k = k'
  gfr : ∀ k g, E.gm k = some g → w0.heap.size ≤ g ∨ ext.blk g
  gx : ∀ k g, (k = 0 ∨ XK ≤ k) → E.gm k = some g → ext.gk k = some g
  nx : N ≤ XK
  rfr : ∀ k ver z u b, E.rm k = some (ver, z, u) → (blkV u) = some b → w0.heap.size ≤ b ∨ (XK ≤ k ∧ ext.rk k b ∧ ext.blk b)
  rst : ∀ k z u, XK ≤ k → E.rm k = some (0, z, u) → ext.r0 k u
  frame : Grew ext.blk w0 w

section
variable {w0 w w' : World} {okA : Nat → Prop} {ext : Ext} {N : Nat} {s : AS} {a : Act} {E : Env}

theorem St.rwS (h : St w0 okA ext N s a w E) {k : Nat} {r : Row} (hs : s.rw k = some r) (hz : 0 < r.z) : 0 < r.z ∧ rowOk r.z r.es ∧ ∃ u vs, E.rm k = some (r.ver, r.z, u) ∧ w.ownsRow 0 r.E r.z u r.es.length vs ∧ RRel w (okE w0 okA E) w0.heap.size r.es.flatten vs := by
  obtain ⟨_, h2, u, vs, h3, h4, h5⟩ := h.rw k r hs
  exact ⟨hz, h2.1 hz, u, vs, h3, h4.row hz, h5⟩
theorem St.zpos (h : St w0 okA ext N s a w E) {k ver z : Nat} {r : Row} {u : Value} (hs : s.rw k = some r) (hr : E.rm k = some (ver, z, u)) (hz : 0 < z) : 0 < r.z := by
  obtain ⟨_, _, u', _, h3, _⟩ := h.rw k r hs
  rw [h3] at hr
  simp only [Option.some.injEq, Prod.mk.injEq] at hr
  omega
theorem St.glt (h : St w0 okA ext N s a w E) {k g : Nat} (hg : E.gm k = some g) : g < w.heap.size := by
  cases hb : s.bx k with
  | none => rw [h.bxn k hb] at hg; cases hg
  | some cs =>
    obtain ⟨g', cur, ty, h1, h2, _⟩ := h.bx k cs hb
    rw [h1] at hg; injection hg with hg; subst hg
    rcases Nat.lt_or_ge g' w.heap.size with hl | hl
    · exact hl
    · rw [Array.getElem?_eq_none hl] at h2; cases h2
theorem St.rlt (h : St w0 okA ext N s a w E) {k ver z b : Nat} {u : Value} (hr : E.rm k = some (ver, z, u)) (hu : (blkV u) = some b) : b < w.heap.size := by
  cases hb : s.rw k with
  | none => rw [h.rwn k hb] at hr; cases hr
  | some r =>
    obtain ⟨_, _, u', vs, h1, h2, _⟩ := h.rw k r hb
    rw [h1] at hr; injection hr with hr
    simp only [Prod.mk.injEq] at hr
    obtain ⟨_, _, rfl⟩ := hr
    exact (h2.lt b hu).2

theorem St.put (h : St w0 okA ext N s a w E) {d : Option Nat} {x : Val} {v : Value} (hx : VRel w (okE w0 okA E) w0.heap.size E x v) (hd : ∀ k, d = some k → k < N) : St w0 okA ext N (s.put d x) (a.put d v) w E := by
  cases d with
  | none => exact h
  | some k =>
    have hk := hd k rfl
    refine { h with size := ?_, defers := h.defers, tm := fun t => ?_ }
    · simp [Act.put, h.size]
    · simp only [AS.put, upd, Act.put]
      by_cases ht : t = k
      · subst ht
        have : (a.tmps.setIfInBounds t v).getD t undef = v := by simp [Array.getD, h.size, hk]
        rw [if_pos rfl, this]; exact hx
      · have : (a.tmps.setIfInBounds k v).getD t undef = a.tmps.getD t undef := by
          simp [Array.getD_eq_getD_getElem?, Ne.symm ht]
        rw [if_neg ht, this]; exact h.tm t

/-- The world grows; nothing that was there has turned. -/
theorem St.grown (h : St w0 okA ext N s a w E) (hg : w.grownBy w' none) : St w0 okA ext N s a w' E where
  size := h.size
  defers := h.defers
  tm t := (h.tm t).move (.of_grown hg) (fun _ _ h => h) (Nat.le_refl _) (.refl E)
  bx k cs hc := by
    obtain ⟨g, cur, ty, h1, h2, h3⟩ := h.bx k cs hc
    exact ⟨g, cur, ty, h1, (hg.block g (h.glt h1) (by simp)).trans h2, h3.move (.of_grown hg) (fun _ _ h => h) (Nat.le_refl _) (.refl E)⟩
  bxn := h.bxn
  rw k r hr := by
    obtain ⟨h1, h2, u, vs, h3, h4, h5⟩ := h.rw k r hr
    refine ⟨h1, h2, u, vs, h3, ?_, h5.move (.of_grown hg) (fun _ _ h => h) (Nat.le_refl _)⟩
    rcases hu : (blkV u) with _ | b
    · exact h4.kept hg (.inl hu)
    · exact h4.kept hg (.inr (by rw [hu]; simp))
  rwn := h.rwn
  ginj := h.ginj
  gr := h.gr
  rr := h.rr
  gfr := h.gfr
  gx := h.gx
  nx := h.nx
  rfr := h.rfr
  rst := h.rst
  frame := by
    refine ⟨hg.os.trans h.frame.os, hg.tape.trans h.frame.tape, hg.output.trans h.frame.output, Nat.le_trans h.frame.size hg.size, fun k hk hne => ?_⟩
    exact (hg.block k (Nat.lt_of_lt_of_le hk h.frame.size) (by simp)).trans (h.frame.block k hk hne)
end
end Go.Ai

/-
  The abstract layer: regions, branches, loops, whole functions.
-/
import Derived.Test.YtggbcgldnjmobaaDoorAiDraw
namespace Go.Ai
open Go
set_option linter.unusedSimpArgs false
set_option linter.unusedVariables false

structure Ann where
  keep : Option Keep
  owns : List (Nat × TypeId × Nat)
  lims : List (Nat × Option Nat)
  tys : List (Nat × Nat)
  calls : List (Nat × CAnn)

def withOwns (c : AC) : List (Nat × TypeId × Nat) → AC
  | [] => c
  | (k, e, z) :: l => withOwns (.seq c (if XK ≤ k then .ownb (k - XK) e z else .own k e z)) l

def withTys (c : AC) : List (Nat × Nat) → AC
  | [] => c
  | (k, z) :: l => withTys (.seq c (.ty k z)) l

def compileCode (P : Program) (N : Nat) : Code → List Ann → Option (AC × List Ann)
  | .skip, l => some (.skip, l)
  | .region _ ops false, an :: l => match ops.toList.mapM (compileGI P N an.calls ops) with
    | some gs => some (withTys (withOwns (.reg false gs an.keep) an.owns) an.tys, l)
    | none => none
  | .region _ ops true, an :: l => match ops.toList.mapM (compileGI P N an.calls ops) with
    | some gs => if P.follows .mixedOrders = true ∧ drawOk ops.toList (limit an.lims 0 gs) = true then some (withTys (withOwns (.reg true (inter (limit an.lims 0 gs)) an.keep) an.owns) an.tys, l) else none
    | none => none
  | .seq a b, l => match compileCode P N a l with
    | some (x, l) => match compileCode P N b l with
      | some (y, l) => some (.seq x y, l)
      | none => none
    | none => none
  | .cond c a b, l => match opd c, compileCode P N a l with
    | some c, some (x, l) => match compileCode P N b l with
      | some (y, l) => some (.cond c x y, l)
      | none => none
    | _, _ => none
  | .block id a, l => match compileCode P N a l with
    | some (x, l) => some (.block id x, l)
    | none => none
  | .loop a, l => match compileCode P N a l with
    | some (x, l) => some (.loop x, l)
    | none => none
  | .exit id, l => some (.exit id, l)
  | .ret, l => some (.ret, l)
  | _, _ => none

inductive AX where
  | nrm
  | ret
  | ex (id : Nat)

def thenX (T : AS → Prop) (Q : AX → AS → Prop) : AX → AS → Prop
  | .nrm, s => T s
  | e, s => Q e s
def blkX (id : Nat) (Q : AX → AS → Prop) : AX → AS → Prop
  | .ex j, s => if j = id then Q .nrm s else Q (.ex j) s
  | e, s => Q e s

def ownS (s : AS) (k : Nat) (E : TypeId) (z : Nat) (T : AS → Prop) : Prop :=
  match s.tm k, s.rw k with
  | .one (.g (.slice none 0 c)), none => c = 0 ∧ 0 < z ∧ T { s with tm := upd s.tm k (.one (.ow k 0)), rw := upd s.rw k (some ⟨0, E, z, []⟩) }
  | _, _ => False

/-- A nil slice in a box becomes a row of the call's own. -/
def ownB (s : AS) (k : Nat) (E : TypeId) (z : Nat) (T : AS → Prop) : Prop :=
  match s.bx k, s.rw k with
  | some (.g (.slice none 0 0) :: cs), none => k < XK ∧ 0 < z ∧ T { s with bx := upd s.bx k (some (.ow k 0 :: cs)), rw := upd s.rw k (some ⟨0, E, z, []⟩) }
  | _, _ => False

def awp (P : Program) : AC → (AX → AS → Prop) → AS → Prop
  | .skip, Q, s => Q .nrm s
  | .reg _ l kp, Q, s => aops P l (fun s' => Q .nrm (s'.keep kp)) s
  | .seq a b, Q, s => awp P a (thenX (awp P b Q) Q) s
  | .cond c a b, Q, s => match s.ev c with
    | .one (.g (.bool t)) => match t with
      | true => awp P a Q s
      | false => awp P b Q s
    | _ => False
  | .block id a, Q, s => awp P a (blkX id Q) s
  | .loop a, Q, s => ∃ (I : Nat → AS → Prop) (n : Nat), I n s ∧ ∀ n s, I n s → awp P a (thenX (fun s' => ∃ m, m < n ∧ I m s') Q) s
  | .exit id, Q, s => Q (.ex id) s
  | .ret, Q, s => Q .ret s
  | .own k E z, Q, s => ownS s k E z (Q .nrm)
  | .ownb k E z, Q, s => ownB s k E z (Q .nrm)
  | .ty k z, Q, s => Q .nrm { s with tm := upd s.tm k (tyV z (s.tm k)) }

section
variable {P : Program} {w0 w w' : World} {okA : Nat → Prop} {ext : Ext} {N : Nat} {s : AS} {a : Act} {E : Env} {o : Oper} {K : Act → World → Prop} {Q : Exit → Act → World → Prop}

def cpost (w0 : World) (okA : Nat → Prop) (ext : Ext) (N : Nat) (Q : AX → AS → Prop) : Exit → Act → World → Prop
  | .normal, a, w => ∃ s E, St w0 okA ext N s a w E ∧ Q .nrm s
  | .ret, a, w => ∃ s E, St w0 okA ext N s a w E ∧ Q .ret s
  | .exit id, a, w => ∃ s E, St w0 okA ext N s a w E ∧ Q (.ex id) s
  | _, _, _ => False

theorem owns_sound {Q : AX → AS → Prop} : ∀ (l : List (Nat × TypeId × Nat)) (c : AC) (code : Code), (∀ (Q : AX → AS → Prop) s a w E, St w0 okA ext N s a w E → awp P c Q s → code.wp P (cpost w0 okA ext N Q) a w) →
    ∀ s a w E, St w0 okA ext N s a w E → awp P (withOwns c l) Q s → code.wp P (cpost w0 okA ext N Q) a w
  | [], c, code, hc, s, a, w, E, h, hK => hc Q s a w E h hK
  | (k, e, z) :: l, c, code, hc, s, a, w, E, h, hK => by
    refine owns_sound l (.seq c (if XK ≤ k then .ownb (k - XK) e z else .own k e z)) code (fun Q s a w E h hK => ?_) s a w E h hK
    have h1 := hc _ s a w E h hK
    refine wp_mono h1 (fun e' a' w' hq => ?_)
    cases e' with
    | normal =>
      obtain ⟨s', E', hst, hq⟩ := hq
      by_cases hx : XK ≤ k
      · rw [if_pos hx] at hq
        simp only [thenX, awp, ownB] at hq
        split at hq
        · rename_i cs hk hr
          exact ⟨_, _, hst.ownBox hq.2.1 hk hq.1 hr, hq.2.2⟩
        · exact hq.elim
      · rw [if_neg hx] at hq
        simp only [thenX, awp, ownS] at hq
        split at hq
        · rename_i c' hk hr
          exact ⟨_, _, hst.own hq.2.1 hk hq.1 hr, hq.2.2⟩
        · exact hq.elim
    | ret => exact hq
    | exit id => exact hq
    | _ => exact hq.elim

theorem tyV_rel {w : World} {ok : Nat → Prop} {base : Nat} {E : Env} {z : Nat} {x : Val} {v : Value} (h : VRel w ok base E x v) : VRel w ok base E (tyV z x) v := by
  unfold tyV
  split
  · rename_i c
    have e1 := one_g h rfl
    subst e1
    exact .one (.nil)
  · exact h
theorem St.ty (h : St w0 okA ext N s a w E) (k z : Nat) : St w0 okA ext N { s with tm := upd s.tm k (tyV z (s.tm k)) } a w E := by
  refine { h with tm := fun t => ?_ }
  simp only [upd]
  by_cases e : t = k
  · subst e; rw [if_pos rfl]; exact tyV_rel (h.tm t)
  · rw [if_neg e]; exact h.tm t
theorem tys_sound {Q : AX → AS → Prop} : ∀ (l : List (Nat × Nat)) (c : AC) (code : Code), (∀ (Q : AX → AS → Prop) s a w E, St w0 okA ext N s a w E → awp P c Q s → code.wp P (cpost w0 okA ext N Q) a w) →
    ∀ s a w E, St w0 okA ext N s a w E → awp P (withTys c l) Q s → code.wp P (cpost w0 okA ext N Q) a w
  | [], c, code, hc, s, a, w, E, h, hK => hc Q s a w E h hK
  | (k, z) :: l, c, code, hc, s, a, w, E, h, hK => by
    refine tys_sound l (.seq c (.ty k z)) code (fun Q s a w E h hK => ?_) s a w E h hK
    have h1 := hc _ s a w E h hK
    refine wp_mono h1 (fun e' a' w' hq => ?_)
    cases e' with
    | normal =>
      obtain ⟨s', E', hst, hq⟩ := hq
      exact ⟨_, _, hst.ty k z, hq⟩
    | ret => exact hq
    | exit id => exact hq
    | _ => exact hq.elim

theorem awp_sound : ∀ (c : Code) (l l' : List Ann) (ac : AC), compileCode P N c l = some (ac, l') → ∀ (Q : AX → AS → Prop) (s : AS) (a : Act) (w : World) (E : Env), St w0 okA ext N s a w E → awp P ac Q s → c.wp P (cpost w0 okA ext N Q) a w
  | .skip, l, l', ac, hc, Q, s, a, w, E, h, hK => by
    simp only [compileCode, Option.some.injEq, Prod.mk.injEq] at hc; obtain ⟨rfl, rfl⟩ := hc
    exact wp_skip ⟨s, E, h, hK⟩
  | .region id ops d, l, l', ac, hc, Q, s, a, w, E, h, hK => by
    have hmono : ∀ (gs : List GI) (T T' : AS → Prop), (∀ s, T s → T' s) → ∀ s, aops P gs T s → aops P gs T' s := by
      intro gs
      induction gs with
      | nil => intro T T' hT s h; exact hT s h
      | cons g gs ih => intro T T' hT s h; exact gstep_mono (fun s hs => ih T T' hT s hs) h
    cases d with
    | true =>
      cases l with
      | nil => simp [compileCode] at hc
      | cons an l =>
        simp only [compileCode] at hc
        split at hc
        · rename_i gs hgs
          split at hc
          · rename_i hok
            simp only [Option.some.injEq, Prod.mk.injEq] at hc; obtain ⟨rfl, rfl⟩ := hc
            refine tys_sound an.tys _ _ (fun Q s a w E h hK => owns_sound an.owns (.reg true (inter (limit an.lims 0 gs)) an.keep) _ (fun Q s a w E h hK => ?_) s a w E h hK) s a w E h hK
            refine draw_sound (T := fun s' => Q .nrm (s'.keep an.keep)) hok.1 (by rw [limit_map]; exact hgs) hok.2 h (fun s' a' w' E' hst hs' => ?_) hK
            obtain ⟨E'', hst'⟩ := hst.keep an.keep
            exact ⟨_, E'', hst', hs'⟩
          · cases hc
        · cases hc
    | false =>
      cases l with
      | nil => simp [compileCode] at hc
      | cons an l =>
        simp only [compileCode] at hc
        split at hc
        · rename_i gs hgs
          simp only [Option.some.injEq, Prod.mk.injEq] at hc; obtain ⟨rfl, rfl⟩ := hc
          refine tys_sound an.tys _ _ (fun Q s a w E h hK => owns_sound an.owns (.reg false gs an.keep) _ (fun Q s a w E h hK => ?_) s a w E h hK) s a w E h hK
          refine wp_region_list (aops_sound ops.toList gs hgs s a w E h ?_)
          refine hmono gs _ _ (fun s' hs' a' w' E' hst => ?_) s hK
          obtain ⟨E'', hst'⟩ := hst.keep an.keep
          exact ⟨_, E'', hst', hs'⟩
        · cases hc
  | .seq x y, l, l', ac, hc, Q, s, a, w, E, h, hK => by
    simp only [compileCode] at hc
    split at hc
    · rename_i x' l1 h1
      split at hc
      · rename_i y' l2 h2
        simp only [Option.some.injEq, Prod.mk.injEq] at hc; obtain ⟨rfl, rfl⟩ := hc
        refine wp_seq (wp_mono (awp_sound x l l1 x' h1 _ s a w E h hK) fun e a' w' hq => ?_)
        cases e with
        | normal => obtain ⟨s', E', hst, hq⟩ := hq; exact awp_sound y l1 _ y' h2 Q s' a' w' E' hst hq
        | ret => exact hq
        | exit id => exact hq
        | _ => exact hq.elim
      · cases hc
    · cases hc
  | .cond c x y, l, l', ac, hc, Q, s, a, w, E, h, hK => by
    simp only [compileCode] at hc
    split at hc
    · rename_i c' x' l1 hcc h1
      split at hc
      · rename_i y' l2 h2
        simp only [Option.some.injEq, Prod.mk.injEq] at hc; obtain ⟨rfl, rfl⟩ := hc
        simp only [awp] at hK
        split at hK
        · rename_i t hv
          have e1 := one_g (ev_rel h hcc) hv
          cases t with
          | true => exact wp_cond_true e1 (awp_sound x l l1 x' h1 Q s a w E h hK)
          | false => exact wp_cond_false e1 (awp_sound y l1 _ y' h2 Q s a w E h hK)
        · exact hK.elim
      · cases hc
    · cases hc
  | .block id x, l, l', ac, hc, Q, s, a, w, E, h, hK => by
    simp only [compileCode] at hc
    split at hc
    · rename_i x' l1 h1
      simp only [Option.some.injEq, Prod.mk.injEq] at hc; obtain ⟨rfl, rfl⟩ := hc
      refine wp_block (wp_mono (awp_sound x l _ x' h1 _ s a w E h hK) fun e a' w' hq => ?_)
      cases e with
      | normal => exact hq
      | ret => exact hq
      | exit j =>
        obtain ⟨s', E', hst, hq⟩ := hq
        simp only [blkX] at hq
        simp only [Exit.inBlock]
        by_cases e : j = id
        · rw [if_pos e] at hq ⊢; exact ⟨s', E', hst, hq⟩
        · rw [if_neg e] at hq ⊢; exact ⟨s', E', hst, hq⟩
      | _ => exact hq.elim
    · cases hc
  | .loop x, l, l', ac, hc, Q, s, a, w, E, h, hK => by
    simp only [compileCode] at hc
    split at hc
    · rename_i x' l1 h1
      simp only [Option.some.injEq, Prod.mk.injEq] at hc; obtain ⟨rfl, rfl⟩ := hc
      obtain ⟨I, n, hI, hround⟩ := hK
      let J : Nat → Act → World → Prop := fun n a w => ∃ s E, St w0 okA ext N s a w E ∧ I n s
      have hex : ∀ (a : Act) (w : World), (∃ n, J n a w) → ∃ n, J n a w ∧ ∀ m, J m a w → n ≤ m := fun a w ⟨n, hn⟩ => by
        induction n using Nat.strongRecOn with
        | _ n ih =>
          by_cases hlt : ∃ m, m < n ∧ J m a w
          · obtain ⟨m, hm, hj⟩ := hlt; exact ih m hm hj
          · exact ⟨n, hn, fun m hm => Nat.le_of_not_lt fun hlt' => hlt ⟨m, hlt', hm⟩⟩
      let μ : Act → World → Nat := fun a w => @dite Nat (∃ n, J n a w) (Classical.propDecidable _) (fun hx => Classical.choose (hex a w hx)) (fun _ => 0)
      have hμ : ∀ a w, (hx : ∃ n, J n a w) → J (μ a w) a w ∧ ∀ m, J m a w → μ a w ≤ m := fun a w hx => by
        have : μ a w = Classical.choose (hex a w hx) := by simp only [μ]; rw [dif_pos hx]
        rw [this]; exact Classical.choose_spec (hex a w hx)
      refine wp_loop (fun a w => ∃ n, J n a w) μ ⟨n, s, E, h, hI⟩ (fun a w hx => ?_)
      obtain ⟨⟨s', E', hst, hI'⟩, _⟩ := hμ a w hx
      refine wp_mono (awp_sound x l _ x' h1 _ s' a w E' hst (hround _ s' hI')) fun e a' w' hq => ?_
      cases e with
      | normal =>
        obtain ⟨s'', E'', hst', m, hm, hIm⟩ := hq
        have hj : J m a' w' := ⟨s'', E'', hst', hIm⟩
        exact ⟨⟨m, hj⟩, Nat.lt_of_le_of_lt ((hμ a' w' ⟨m, hj⟩).2 m hj) hm⟩
      | ret => exact hq
      | exit id => exact hq
      | _ => exact hq.elim
    · cases hc
  | .exit id, l, l', ac, hc, Q, s, a, w, E, h, hK => by
    simp only [compileCode, Option.some.injEq, Prod.mk.injEq] at hc; obtain ⟨rfl, rfl⟩ := hc
    exact wp_exit ⟨s, E, h, hK⟩
  | .ret, l, l', ac, hc, Q, s, a, w, E, h, hK => by
    simp only [compileCode, Option.some.injEq, Prod.mk.injEq] at hc; obtain ⟨rfl, rfl⟩ := hc
    exact wp_ret ⟨s, E, h, hK⟩
  | .rangeFunc _ _ _ _, l, l', ac, hc, Q, s, a, w, E, h, hK => by simp [compileCode] at hc
  | .scope _, l, l', ac, hc, Q, s, a, w, E, h, hK => by simp [compileCode] at hc
  | .label _, l, l', ac, hc, Q, s, a, w, E, h, hK => by simp [compileCode] at hc
  | .goto _, l, l', ac, hc, Q, s, a, w, E, h, hK => by simp [compileCode] at hc
  | .refuse _, l, l', ac, hc, Q, s, a, w, E, h, hK => by simp [compileCode] at hc
theorem awp_mono : ∀ (c : AC) (Q Q' : AX → AS → Prop), (∀ e s, Q e s → Q' e s) → ∀ s, awp P c Q s → awp P c Q' s := by
  intro c
  induction c with
  | skip => intro Q Q' hq s h; exact hq _ _ h
  | reg d l kp =>
    intro Q Q' hq s h
    have hm : ∀ (gs : List GI) (T T' : AS → Prop), (∀ s, T s → T' s) → ∀ s, aops P gs T s → aops P gs T' s := by
      intro gs
      induction gs with
      | nil => intro T T' hT s h; exact hT s h
      | cons g gs ih => intro T T' hT s h; exact gstep_mono (fun s hs => ih T T' hT s hs) h
    exact hm l _ _ (fun s h => hq _ _ h) s h
  | seq a b iha ihb =>
    intro Q Q' hq s h
    refine iha _ _ (fun e s h => ?_) s h
    cases e with
    | nrm => exact ihb _ _ hq s h
    | ret => exact hq _ _ h
    | ex id => exact hq _ _ h
  | cond c a b iha ihb =>
    intro Q Q' hq s h
    simp only [awp] at h ⊢
    split at h
    · rename_i t ht
      cases t with
      | true => exact iha _ _ hq s h
      | false => exact ihb _ _ hq s h
    · exact h.elim
  | block id a iha =>
    intro Q Q' hq s h
    refine iha _ _ (fun e s h => ?_) s h
    cases e with
    | nrm => exact hq _ _ h
    | ret => exact hq _ _ h
    | ex j => simp only [blkX] at h ⊢; split at h <;> rename_i e
              · rw [if_pos e]; exact hq _ _ h
              · rw [if_neg e]; exact hq _ _ h
  | loop a iha =>
    intro Q Q' hq s h
    obtain ⟨I, n, h1, h2⟩ := h
    refine ⟨I, n, h1, fun n s hs => iha _ _ (fun e s h => ?_) s (h2 n s hs)⟩
    cases e with
    | nrm => exact h
    | ret => exact hq _ _ h
    | ex id => exact hq _ _ h
  | exit id => intro Q Q' hq s h; exact hq _ _ h
  | ret => intro Q Q' hq s h; exact hq _ _ h
  | ty j z => intro Q Q' hq s h; exact hq _ _ h
  | own j E z =>
    intro Q Q' hq s h
    simp only [awp, ownS] at h ⊢
    split at h
    · exact ⟨h.1, h.2.1, hq _ _ h.2.2⟩
    · exact h.elim
  | ownb j E z =>
    intro Q Q' hq s h
    simp only [awp, ownB] at h ⊢
    split at h
    · exact ⟨h.1, h.2.1, hq _ _ h.2.2⟩
    · exact h.elim
end
end Go.Ai

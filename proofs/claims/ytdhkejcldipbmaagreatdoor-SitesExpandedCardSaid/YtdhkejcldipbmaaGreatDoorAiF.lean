/-
 The abstract layer: regions, branches, loops, whole functions.
 The abstract layer: a whole function's contract out of its abstract run.
 The abstract layer: the contract of a function that is handed boxes and rows, out of its abstract run.
-/
import Derived.Test.YtdhkejcldipbmaaGreatDoorAiD
namespace Go.Ai
open Go
set_option linter.unusedSimpArgs false
set_option linter.unusedVariables false
set_option linter.unusedSectionVars false
/-- The key of a box: of a Builder in slot d (told as 50000 + d) another one. -/
def bkO (n : Nat) : Nat := if n < 50000 then n else 850000 + n
structure Ann where
 keep : Option Keep
 owns : List (Nat × TypeId × Nat)
 lims : List (Nat × Option Nat)
 tys : List (Nat × Nat)
 calls : List (Nat × CAnn)
abbrev aN (ts bs rs : List Nat) : Ann := ⟨some ⟨ts, bs, rs⟩, [], [], [], []⟩
def withOwns (c : AC) : List (Nat × TypeId × Nat) → AC
 | [] => c
 | (k, e, z) :: l => withOwns (.seq c (if XK ≤ k then .ownb (bkO ((k - XK) % 100000)) ((k - XK) / 100000) (k - XK) e z else .own k e z)) l
def withTys (c : AC) : List (Nat × Nat) → AC
 | [] => c
 | (k, z) :: l => withTys (.seq c (.ty k z)) l
def compileCode (P : Program) (N : Nat) : Code → List Ann → Option (AC × List Ann)
 | .skip, l => some (.skip, l)
 | .region _ ops false, an :: l => match ops.toList.mapM (compileGI P N an.calls ops) with
  | some gs => some (withTys (withOwns (.reg false gs an.keep) an.owns) an.tys, l)
  | none => none
 | .region _ ops true, an :: l => match ops.toList.mapM (compileGI P N an.calls ops) with
  | some gs => if P.follows .mixedOrders = true ∧ drawOk ops.toList (limit an.lims 0 gs) = true then some (withTys (withOwns (.reg true (inter (limit an.lims 0 gs)) an.keep) an.owns) an.tys, l) else none
  | none => none
 | .seq a b, l => match compileCode P N a l with
  | some (x, l) => match compileCode P N b l with
   | some (y, l) => some (.seq x y, l)
   | none => none
  | none => none
 | .cond c a b, l => match opd c, compileCode P N a l with
  | some c, some (x, l) => match compileCode P N b l with
   | some (y, l) => some (.cond c x y, l)
   | none => none
  | _, _ => none
 | .block id a, l => match compileCode P N a l with
  | some (x, l) => some (.block id x, l)
  | none => none
 | .loop a, l => match compileCode P N a l with
  | some (x, l) => some (.loop x, l)
  | none => none
 | .exit id, l => some (.exit id, l)
 | .ret, l => some (.ret, l)
 | _, _ => none
inductive AX where
 | nrm
 | ret
 | ex (id : Nat)
def thenX (T : AS → Prop) (Q : AX → AS → Prop) : AX → AS → Prop
 | .nrm, s => T s
 | e, s => Q e s
def blkX (id : Nat) (Q : AX → AS → Prop) : AX → AS → Prop
 | .ex j, s => if j = id then Q .nrm s else Q (.ex j) s
 | e, s => Q e s
def ownS (s : AS) (k : Nat) (E : TypeId) (z : Nat) (T : AS → Prop) : Prop :=
 match s.tm k, s.rw k with
 | .one (.g (.slice none 0 c)), none => c = 0 ∧ 0 < z ∧ T { s with tm := upd s.tm k (.one (.ow k 0)), rw := upd s.rw k (some ⟨0, E, z, []⟩) }
 | _, _ => False
/-- A nil slice in a box becomes a row of the call's own. -/
def ownB (s : AS) (k off rk : Nat) (E : TypeId) (z : Nat) (T : AS → Prop) : Prop :=
 match s.bx k, s.rw rk with
 | some cs, none => (cs[off]?.map nilC = some true ∧ rk < XK) ∧ 0 < z ∧ T { s with bx := upd s.bx k (some (wr cs off [.ow rk 0])), rw := upd s.rw rk (some ⟨0, E, z, []⟩) }
 | _, _ => False
def awp (P : Program) : AC → (AX → AS → Prop) → AS → Prop
 | .skip, Q, s => Q .nrm s
 | .reg _ l kp, Q, s => aops P l (fun s' => Q .nrm (s'.keep kp)) s
 | .seq a b, Q, s => awp P a (thenX (awp P b Q) Q) s
 | .cond c a b, Q, s => match s.ev c with
  | .one (.g (.bool t)) => match t with
   | true => awp P a Q s
   | false => awp P b Q s
  | _ => False
 | .block id a, Q, s => awp P a (blkX id Q) s
 | .loop a, Q, s => ∃ (I : Nat → AS → Prop) (n : Nat), I n s ∧ ∀ n s, I n s → awp P a (thenX (fun s' => ∃ m, m < n ∧ I m s') Q) s
 | .exit id, Q, s => Q (.ex id) s
 | .ret, Q, s => Q .ret s
 | .own k E z, Q, s => ownS s k E z (Q .nrm)
 | .ownb k off rk E z, Q, s => ownB s k off rk E z (Q .nrm)
 | .ty k z, Q, s => Q .nrm { s with tm := upd s.tm k (tyV z (s.tm k)) }
section
variable {P : Program} {w0 w w' : World} {okA : Nat → Prop} {ext : Ext} {N : Nat} {s : AS} {a : Act} {E : Env} {o : Oper} {K : Act → World → Prop} {Q : Exit → Act → World → Prop} [hT : Tabs P w0 okA ext]
def cpost (w0 : World) (okA : Nat → Prop) (ext : Ext) (N : Nat) (Q : AX → AS → Prop) : Exit → Act → World → Prop
 | .normal, a, w => ∃ s E, St w0 okA ext N s a w E ∧ Q .nrm s
 | .ret, a, w => ∃ s E, St w0 okA ext N s a w E ∧ Q .ret s
 | .exit id, a, w => ∃ s E, St w0 okA ext N s a w E ∧ Q (.ex id) s
 | _, _, _ => False
theorem owns_sound {Q : AX → AS → Prop} : ∀ (l : List (Nat × TypeId × Nat)) (c : AC) (code : Code), (∀ (Q : AX → AS → Prop) s a w E, St w0 okA ext N s a w E → awp P c Q s → code.wp P (cpost w0 okA ext N Q) a w) →
  ∀ s a w E, St w0 okA ext N s a w E → awp P (withOwns c l) Q s → code.wp P (cpost w0 okA ext N Q) a w
 | [], c, code, hc, s, a, w, E, h, hK => hc Q s a w E h hK
 | (k, e, z) :: l, c, code, hc, s, a, w, E, h, hK => by
  refine owns_sound l (.seq c (if XK ≤ k then .ownb (bkO ((k - XK) % 100000)) ((k - XK) / 100000) (k - XK) e z else .own k e z)) code (fun Q s a w E h hK => ?_) s a w E h hK
  have h1 := hc _ s a w E h hK
  refine wp_mono h1 (fun e' a' w' hq => ?_)
  cases e' with
  | normal =>
   obtain ⟨s', E', hst, hq⟩ := hq
   by_cases hx : XK ≤ k
   ·rw [if_pos hx] at hq
    simp only [thenX, awp, ownB] at hq
    split at hq
    ·rename_i cs hk hr
     exact ⟨_, _, hst.ownBox hq.2.1 hk hq.1.1 hq.1.2 hr, hq.2.2⟩
    ·exact hq.elim
   ·rw [if_neg hx] at hq
    simp only [thenX, awp, ownS] at hq
    split at hq
    ·rename_i c' hk hr
     exact ⟨_, _, hst.own hq.2.1 hk hq.1 hr, hq.2.2⟩
    ·exact hq.elim
  | ret => exact hq
  | exit id => exact hq
  | _ => exact hq.elim
theorem tyV_rel {w : World} {ok : Nat → Prop} {base : Nat} {E : Env} {z : Nat} {x : Val} {v : Value} (h : VRel w ok base E x v) : VRel w ok base E (tyV z x) v := by
 unfold tyV
 split
 ·rename_i c
  have e1 := one_g h rfl
  subst e1
  exact .one (.nil)
 ·exact h
theorem St.ty (h : St w0 okA ext N s a w E) (k z : Nat) : St w0 okA ext N { s with tm := upd s.tm k (tyV z (s.tm k)) } a w E := by
 refine { h with tm := fun t => ?_ }
 simp only [upd]
 by_cases e : t = k
 ·subst e; rw [if_pos rfl]; exact tyV_rel (h.tm t)
 ·rw [if_neg e]; exact h.tm t
theorem tys_sound {Q : AX → AS → Prop} : ∀ (l : List (Nat × Nat)) (c : AC) (code : Code), (∀ (Q : AX → AS → Prop) s a w E, St w0 okA ext N s a w E → awp P c Q s → code.wp P (cpost w0 okA ext N Q) a w) →
  ∀ s a w E, St w0 okA ext N s a w E → awp P (withTys c l) Q s → code.wp P (cpost w0 okA ext N Q) a w
 | [], c, code, hc, s, a, w, E, h, hK => hc Q s a w E h hK
 | (k, z) :: l, c, code, hc, s, a, w, E, h, hK => by
  refine tys_sound l (.seq c (.ty k z)) code (fun Q s a w E h hK => ?_) s a w E h hK
  have h1 := hc _ s a w E h hK
  refine wp_mono h1 (fun e' a' w' hq => ?_)
  cases e' with
  | normal =>
   obtain ⟨s', E', hst, hq⟩ := hq
   exact ⟨_, _, hst.ty k z, hq⟩
  | ret => exact hq
  | exit id => exact hq
  | _ => exact hq.elim
theorem awp_sound : ∀ (c : Code) (l l' : List Ann) (ac : AC), compileCode P N c l = some (ac, l') → ∀ (Q : AX → AS → Prop) (s : AS) (a : Act) (w : World) (E : Env), St w0 okA ext N s a w E → awp P ac Q s → c.wp P (cpost w0 okA ext N Q) a w
 | .skip, l, l', ac, hc, Q, s, a, w, E, h, hK => by
  simp only [compileCode, Option.some.injEq, Prod.mk.injEq] at hc; obtain ⟨rfl, rfl⟩ := hc
  exact wp_skip ⟨s, E, h, hK⟩
 | .region id ops d, l, l', ac, hc, Q, s, a, w, E, h, hK => by
  have hmono : ∀ (gs : List GI) (T T' : AS → Prop), (∀ s, T s → T' s) → ∀ s, aops P gs T s → aops P gs T' s := by
   intro gs
   induction gs with
   | nil => intro T T' hT s h; exact hT s h
   | cons g gs ih => intro T T' hT s h; exact gstep_mono (fun s hs => ih T T' hT s hs) h
  cases d with
  | true =>
   cases l with
   | nil => simp [compileCode] at hc
   | cons an l =>
    simp only [compileCode] at hc
    split at hc
    ·rename_i gs hgs
     split at hc
     ·rename_i hok
      simp only [Option.some.injEq, Prod.mk.injEq] at hc; obtain ⟨rfl, rfl⟩ := hc
      refine tys_sound an.tys _ _ (fun Q s a w E h hK => owns_sound an.owns (.reg true (inter (limit an.lims 0 gs)) an.keep) _ (fun Q s a w E h hK => ?_) s a w E h hK) s a w E h hK
      refine draw_sound (T := fun s' => Q .nrm (s'.keep an.keep)) hok.1 (by rw [limit_map]; exact hgs) hok.2 h (fun s' a' w' E' hst hs' => ?_) hK
      obtain ⟨E'', hst'⟩ := hst.keep an.keep
      exact ⟨_, E'', hst', hs'⟩
     ·cases hc
    ·cases hc
  | false =>
   cases l with
   | nil => simp [compileCode] at hc
   | cons an l =>
    simp only [compileCode] at hc
    split at hc
    ·rename_i gs hgs
     simp only [Option.some.injEq, Prod.mk.injEq] at hc; obtain ⟨rfl, rfl⟩ := hc
     refine tys_sound an.tys _ _ (fun Q s a w E h hK => owns_sound an.owns (.reg false gs an.keep) _ (fun Q s a w E h hK => ?_) s a w E h hK) s a w E h hK
     refine wp_region_list (aops_sound ops.toList gs hgs s a w E h ?_)
     refine hmono gs _ _ (fun s' hs' a' w' E' hst => ?_) s hK
     obtain ⟨E'', hst'⟩ := hst.keep an.keep
     exact ⟨_, E'', hst', hs'⟩
    ·cases hc
 | .seq x y, l, l', ac, hc, Q, s, a, w, E, h, hK => by
  simp only [compileCode] at hc
  split at hc
  ·rename_i x' l1 h1
   split at hc
   ·rename_i y' l2 h2
    simp only [Option.some.injEq, Prod.mk.injEq] at hc; obtain ⟨rfl, rfl⟩ := hc
    refine wp_seq (wp_mono (awp_sound x l l1 x' h1 _ s a w E h hK) fun e a' w' hq => ?_)
    cases e with
    | normal => obtain ⟨s', E', hst, hq⟩ := hq; exact awp_sound y l1 _ y' h2 Q s' a' w' E' hst hq
    | ret => exact hq
    | exit id => exact hq
    | _ => exact hq.elim
   ·cases hc
  ·cases hc
 | .cond c x y, l, l', ac, hc, Q, s, a, w, E, h, hK => by
  simp only [compileCode] at hc
  split at hc
  ·rename_i c' x' l1 hcc h1
   split at hc
   ·rename_i y' l2 h2
    simp only [Option.some.injEq, Prod.mk.injEq] at hc; obtain ⟨rfl, rfl⟩ := hc
    simp only [awp] at hK
    split at hK
    ·rename_i t hv
     have e1 := one_g (ev_rel h hcc) hv
     cases t with
     | true => exact wp_cond_true e1 (awp_sound x l l1 x' h1 Q s a w E h hK)
     | false => exact wp_cond_false e1 (awp_sound y l1 _ y' h2 Q s a w E h hK)
    ·exact hK.elim
   ·cases hc
  ·cases hc
 | .block id x, l, l', ac, hc, Q, s, a, w, E, h, hK => by
  simp only [compileCode] at hc
  split at hc
  ·rename_i x' l1 h1
   simp only [Option.some.injEq, Prod.mk.injEq] at hc; obtain ⟨rfl, rfl⟩ := hc
   refine wp_block (wp_mono (awp_sound x l _ x' h1 _ s a w E h hK) fun e a' w' hq => ?_)
   cases e with
   | normal => exact hq
   | ret => exact hq
   | exit j =>
    obtain ⟨s', E', hst, hq⟩ := hq
    simp only [blkX] at hq
    simp only [Exit.inBlock]
    by_cases e : j = id
    ·rw [if_pos e] at hq ⊢; exact ⟨s', E', hst, hq⟩
    ·rw [if_neg e] at hq ⊢; exact ⟨s', E', hst, hq⟩
   | _ => exact hq.elim
  ·cases hc
 | .loop x, l, l', ac, hc, Q, s, a, w, E, h, hK => by
  simp only [compileCode] at hc
  split at hc
  ·rename_i x' l1 h1
   simp only [Option.some.injEq, Prod.mk.injEq] at hc; obtain ⟨rfl, rfl⟩ := hc
   obtain ⟨I, n, hI, hround⟩ := hK
   let J : Nat → Act → World → Prop := fun n a w => ∃ s E, St w0 okA ext N s a w E ∧ I n s
   have hex : ∀ (a : Act) (w : World), (∃ n, J n a w) → ∃ n, J n a w ∧ ∀ m, J m a w → n ≤ m := fun a w ⟨n, hn⟩ => by
    induction n using Nat.strongRecOn with
    | _ n ih =>
     by_cases hlt : ∃ m, m < n ∧ J m a w
     ·obtain ⟨m, hm, hj⟩ := hlt; exact ih m hm hj
     ·exact ⟨n, hn, fun m hm => Nat.le_of_not_lt fun hlt' => hlt ⟨m, hlt', hm⟩⟩
   let μ : Act → World → Nat := fun a w => @dite Nat (∃ n, J n a w) (Classical.propDecidable _) (fun hx => Classical.choose (hex a w hx)) (fun _ => 0)
   have hμ : ∀ a w, (hx : ∃ n, J n a w) → J (μ a w) a w ∧ ∀ m, J m a w → μ a w ≤ m := fun a w hx => by
    have : μ a w = Classical.choose (hex a w hx) := by simp only [μ]; rw [dif_pos hx]
    rw [this]; exact Classical.choose_spec (hex a w hx)
   refine wp_loop (fun a w => ∃ n, J n a w) μ ⟨n, s, E, h, hI⟩ (fun a w hx => ?_)
   obtain ⟨⟨s', E', hst, hI'⟩, _⟩ := hμ a w hx
   refine wp_mono (awp_sound x l _ x' h1 _ s' a w E' hst (hround _ s' hI')) fun e a' w' hq => ?_
   cases e with
   | normal =>
    obtain ⟨s'', E'', hst', m, hm, hIm⟩ := hq
    have hj : J m a' w' := ⟨s'', E'', hst', hIm⟩
    exact ⟨⟨m, hj⟩, Nat.lt_of_le_of_lt ((hμ a' w' ⟨m, hj⟩).2 m hj) hm⟩
   | ret => exact hq
   | exit id => exact hq
   | _ => exact hq.elim
  ·cases hc
 | .exit id, l, l', ac, hc, Q, s, a, w, E, h, hK => by
  simp only [compileCode, Option.some.injEq, Prod.mk.injEq] at hc; obtain ⟨rfl, rfl⟩ := hc
  exact wp_exit ⟨s, E, h, hK⟩
 | .ret, l, l', ac, hc, Q, s, a, w, E, h, hK => by
  simp only [compileCode, Option.some.injEq, Prod.mk.injEq] at hc; obtain ⟨rfl, rfl⟩ := hc
  exact wp_ret ⟨s, E, h, hK⟩
 | .rangeFunc _ _ _ _, l, l', ac, hc, Q, s, a, w, E, h, hK => by simp [compileCode] at hc
 | .scope _, l, l', ac, hc, Q, s, a, w, E, h, hK => by simp [compileCode] at hc
 | .label _, l, l', ac, hc, Q, s, a, w, E, h, hK => by simp [compileCode] at hc
 | .goto _, l, l', ac, hc, Q, s, a, w, E, h, hK => by simp [compileCode] at hc
 | .refuse _, l, l', ac, hc, Q, s, a, w, E, h, hK => by simp [compileCode] at hc
theorem awp_mono : ∀ (c : AC) (Q Q' : AX → AS → Prop), (∀ e s, Q e s → Q' e s) → ∀ s, awp P c Q s → awp P c Q' s := by
 intro c
 induction c with
 | skip => intro Q Q' hq s h; exact hq _ _ h
 | reg d l kp =>
  intro Q Q' hq s h
  have hm : ∀ (gs : List GI) (T T' : AS → Prop), (∀ s, T s → T' s) → ∀ s, aops P gs T s → aops P gs T' s := by
   intro gs
   induction gs with
   | nil => intro T T' hT s h; exact hT s h
   | cons g gs ih => intro T T' hT s h; exact gstep_mono (fun s hs => ih T T' hT s hs) h
  exact hm l _ _ (fun s h => hq _ _ h) s h
 | seq a b iha ihb =>
  intro Q Q' hq s h
  refine iha _ _ (fun e s h => ?_) s h
  cases e with
  | nrm => exact ihb _ _ hq s h
  | ret => exact hq _ _ h
  | ex id => exact hq _ _ h
 | cond c a b iha ihb =>
  intro Q Q' hq s h
  simp only [awp] at h ⊢
  split at h
  ·rename_i t ht
   cases t with
   | true => exact iha _ _ hq s h
   | false => exact ihb _ _ hq s h
  ·exact h.elim
 | block id a iha =>
  intro Q Q' hq s h
  refine iha _ _ (fun e s h => ?_) s h
  cases e with
  | nrm => exact hq _ _ h
  | ret => exact hq _ _ h
  | ex j =>
   simp only [blkX] at h ⊢
   split at h <;> rename_i e
   ·rw [if_pos e]; exact hq _ _ h
   ·rw [if_neg e]; exact hq _ _ h
 | loop a iha =>
  intro Q Q' hq s h
  obtain ⟨I, n, h1, h2⟩ := h
  refine ⟨I, n, h1, fun n s hs => iha _ _ (fun e s h => ?_) s (h2 n s hs)⟩
  cases e with
  | nrm => exact h
  | ret => exact hq _ _ h
  | ex id => exact hq _ _ h
 | exit id => intro Q Q' hq s h; exact hq _ _ h
 | ret => intro Q Q' hq s h; exact hq _ _ h
 | ty j z => intro Q Q' hq s h; exact hq _ _ h
 | own j E z =>
  intro Q Q' hq s h
  simp only [awp, ownS] at h ⊢
  split at h
  ·exact ⟨h.1, h.2.1, hq _ _ h.2.2⟩
  ·exact h.elim
 | ownb j off rk E z =>
  intro Q Q' hq s h
  simp only [awp, ownB] at h ⊢
  split at h
  ·exact ⟨h.1, h.2.1, hq _ _ h.2.2⟩
  ·exact h.elim
end
end Go.Ai
namespace Go.Ai
open Go
set_option linter.unusedSimpArgs false
set_option linter.unusedVariables false
set_option linter.unusedSectionVars false
def compileRes (P : Program) : List ResultVar → Option (List RV)
 | [] => some []
 | .tmp t :: l => (compileRes P l).map (.t t :: ·)
 | .cell a t :: l => match tyOf P t, compileRes P l with
  | some (ag, n), some rs => some (.cell a ag n :: rs)
  | _, _ => none
def slots : Nat → List Val → List (Nat × Val)
 | _, [] => []
 | k, v :: l => (k, v) :: slots (k + 1) l
def initSt : Option (List Cel) → List Val → AS
 | none, args => ⟨tabV (slots 0 args), tabO [], tabO []⟩
 | some cs, args => ⟨tabV ((0, .one (.bx 0 0)) :: slots 1 args), tabO [(0, cs)], tabO []⟩
def fpost (ext : Option (List Cel)) (rs : List RV) (R : List Cel → Val → Prop) : AX → AS → Prop
 | .ex _, _ => False
 | _, s => match s.res rs, ext with
  | some r, none => R [] r
  | some r, some _ => match s.bx 0 with
   | some cs => R (cs.map s.finC) r
   | none => False
  | none, _ => False
section
variable {P : Program} {w0 w w' : World} {okA : Nat → Prop} {ext : Ext} {N : Nat} {s : AS} {a : Act} {E : Env}
theorem fin_relC (h : St w0 okA ext N s a w E) {c : Cel} {v : Value} {ok' : Nat → Prop} {E' : Env} (hc : CRel w (okE w0 okA E) w0.heap.size E c v) (hok : ∀ b, okE w0 okA E b → ok' b) (hrow : ∀ k ver z u b, k < XK → E.rm k = some (ver, z, u) → (blkV u) = some b → ok' b) (hbox : ∀ k g, k ≠ 0 → k < XK → E.gm k = some g → ok' g) :
  CRel w ok' w0.heap.size E' (s.finC c) v := by
 have hone := hc.oneC
 cases c with
 | g u => exact hc
 | any => exact hc
 | sl fr z es =>
  cases fr with
  | false => exact DRel.keep hc (.refl _ w) (fun b _ ho => hok b ho)
  | true => exact DRel.keep (ok := fun b => w0.heap.size ≤ b ∧ okE w0 okA E b) hc (.refl _ w) (fun b _ ho => ⟨ho.1, hok b ho.2⟩)
 | ep cs =>
  obtain ⟨b, off, us, rfl, ho, hlt, hcs⟩ := hc
  exact ⟨b, off, us, rfl, hok b ho, hlt, fun j x hx => ⟨(hcs j x hx).1, (hcs j x hx).2.keep (.refl _ w) (fun b _ ho => hok b ho)⟩⟩
 | ow k ver =>
  simp only [AS.finC]
  cases hs : s.rw k with
  | none => exact hone
  | some r =>
   simp only []
   split
   ·rename_i hver
    obtain ⟨h1, ver', z, u, hr, hle, hv, hzp⟩ := hc
    split
    ·rename_i hxk
     obtain ⟨_, h2, u', vs, hu', h3, h4⟩ := h.rwS hs (h.zpos hs hr hzp)
     have hr2 := hr
     rw [hr] at hu'
     simp only [Option.some.injEq, Prod.mk.injEq] at hu'
     obtain ⟨rfl, rfl, rfl⟩ := hu'
     rw [hv hver]
     exact (row_sl h2 h3 rfl (h4.move (.refl _ w) (fun b _ ho => hok b ho) (Nat.le_refl _)) (fun b hb => ⟨(h.rfr k _ _ u b hr2 hb).elim id (fun h => by have := h.1; omega), hrow k _ _ _ b hxk hr2 hb⟩)).toC
    ·exact hone
   ·exact hone
 | mp k =>
  simp only [AS.finC]
  cases hs : s.rw k with
  | none => exact hone
  | some r =>
   simp only []
   split
   ·rename_i hxk
    obtain ⟨h1, ver', u, hr, rfl⟩ := hc
    obtain ⟨_, hro, u', vs, hu', hown, hrel⟩ := h.rw k r hs
    have hr2 := hr
    rw [hr] at hu'
    simp only [Option.some.injEq, Prod.mk.injEq] at hu'
    obtain ⟨rfl, hz0, rfl⟩ := hu'
    rw [← hz0] at hown
    exact row_fm (hro.2 hz0.symm) hown rfl hrel hok (fun b hb => hrow k _ _ _ b hxk hr2 hb)
   ·exact hone
 | fm kc es => exact DRel.keep hc (.refl _ w) (fun b _ ho => hok b ho)
 | bx k off =>
  simp only [AS.finC]
  cases hs : s.bx k with
  | none => exact hone
  | some cs =>
   simp only []
   split
   ·rename_i hk
    obtain ⟨g, hg, rfl⟩ := hc
    exact (box_ep h hs hg hok (hbox k g hk.1 hk.2 hg)).toC
   ·exact hone
 | op k ver i off => exact hone
 | os k ver lo => exact hone
 | ws k ver lo hi => exact hone
 | fn f caps => exact hone
 | mv f caps => exact hone
theorem fin_relV (h : St w0 okA ext N s a w E) {x : Val} {v : Value} {ok' : Nat → Prop} {E' : Env} (hx : VRel w (okE w0 okA E) w0.heap.size E x v) (hok : ∀ b, okE w0 okA E b → ok' b) (hrow : ∀ k ver z u b, k < XK → E.rm k = some (ver, z, u) → (blkV u) = some b → ok' b) (hbox : ∀ k g, k ≠ 0 → k < XK → E.gm k = some g → ok' g) :
  VRel w ok' w0.heap.size E' (s.fin x) v := by
 cases hx with
 | one h1 => exact .one (fin_relC h h1 hok hrow hbox)
 | @ag cs us h1 =>
  refine .ag ⟨by simpa using h1.1, fun i c u h2 h3 => ?_⟩
  rw [List.getElem?_map] at h2
  cases hi : cs[i]? with
  | none => rw [hi] at h2; cases h2
  | some c0 => rw [hi] at h2; simp at h2; subst h2; exact fin_relC h (h1.2 i c0 u hi h3) hok hrow hbox
 | tu => exact .any
 | any => exact .any
theorem run_loadVar_cells {b off : Nat} {us : List Value} {t : TypeId} {d : TypeDesc} {i : TypeInfo} (hu : P.underlying t = some d) (hi : P.info? t = some i) (hc : ∀ (j : Nat) (u : Value), us[j]? = some u → w.cell? ⟨b, off + j, none⟩ = some u) :
  (isAggB d = true → us.length = i.size → (loadVar t ⟨b, off, none⟩).run P w = .ok (.agg us.toArray) w) ∧ (isAggB d = false → ∀ u, us[0]? = some u → (loadVar t ⟨b, off, none⟩).run P w = .ok u w) := by
 refine ⟨fun h1 hl => ?_, fun h1 u h0 => ?_⟩
 ·have hload := run_loadCells_list (P := P) (w := w) ⟨b, off, none⟩ us (fun j v hv => by rw [add_none]; exact hc j v hv)
  rw [hl] at hload
  cases d <;> simp [isAggB] at h1 <;> simp [loadVar, isAgg, run_underlying hu, sizeOf, typeInfo, hi, hload]
 ·have h3 := hc 0 u h0
  rw [Nat.add_zero] at h3
  cases d <;> simp [isAggB] at h1 <;> simp [loadVar, isAgg, run_underlying hu, load, Sem.run, h3]
def rvRun (tmps : Array Value) : ResultVar → Sem Value
 | .tmp t => pure (tmps.getD t undef)
 | .cell a t => do loadVar t (← asAddr (tmps.getD a undef))
theorem rv_rel (h : St w0 okA ext N s a w E) {ok' : Nat → Prop} {E' : Env} (hok : ∀ b, okE w0 okA E b → ok' b) (hrow : ∀ k ver z u b, k < XK → E.rm k = some (ver, z, u) → (blkV u) = some b → ok' b) (hbox : ∀ k g, k ≠ 0 → k < XK → E.gm k = some g → ok' g) :
  ∀ (rs : List ResultVar) (rvs : List RV) (vs : List Val), compileRes P rs = some rvs → rvs.mapM s.rv = some vs →
   ∃ us, (rs.mapM (rvRun a.tmps)).run P w = .ok us w ∧ vs.length = us.length ∧ ∀ (i : Nat) (x : Val) (u : Value), vs[i]? = some x → us[i]? = some u → VRel w ok' w0.heap.size E' x u
 | [], rvs, vs, h1, h2 => by
  simp [compileRes] at h1; subst h1; simp at h2; subst h2
  exact ⟨[], rfl, rfl, fun i x u h => by simp at h⟩
 | r :: rs, rvs, vs, h1, h2 => by
  have hstep : ∃ rv rvs', rvs = rv :: rvs' ∧ compileRes P rs = some rvs' ∧ ∀ x, s.rv rv = some x → ∃ u, (rvRun a.tmps r).run P w = .ok u w ∧ VRel w ok' w0.heap.size E' x u := by
   cases r with
   | tmp t =>
    simp only [compileRes, Option.map_eq_some_iff] at h1
    obtain ⟨rvs', h3, rfl⟩ := h1
    refine ⟨_, _, rfl, h3, fun x hx => ?_⟩
    simp only [AS.rv, Option.some.injEq] at hx; subst hx
    exact ⟨_, rfl, fin_relV h (h.tm t) hok hrow hbox⟩
   | cell k t =>
    simp only [compileRes] at h1
    split at h1
    ·rename_i ag n rvs' ht h3
     simp only [Option.some.injEq] at h1; subst h1
     obtain ⟨d, inf, hu, hi, he⟩ := ty_of ht
     simp only [Prod.mk.injEq] at he; obtain ⟨rfl, rfl⟩ := he
     refine ⟨_, _, rfl, h3, fun x hx => ?_⟩
     simp only [AS.rv] at hx
     split at hx
     ·rename_i kk off hv
      split at hx
      ·rename_i cs hs
       have htm := h.tm k
       rw [hv] at htm
       obtain ⟨g, hg, hp⟩ := one_c htm rfl
       obtain ⟨g', cur, ty, h4, h5, h6⟩ := h.bx kk cs hs
       rw [hg] at h4; injection h4 with h4; subst h4
       have hcell : ∀ (m : Nat) (j : Nat) (u : Value), ((cur.toList.drop off).take m)[j]? = some u → w.cell? ⟨g, off + j, none⟩ = some u := fun m j u hj => by
        rw [List.getElem?_take] at hj
        split at hj
        ·rw [List.getElem?_drop] at hj
         rw [cell_of_row w g (off + j) cur ty (0, 0) h5, ← Array.getElem?_toList, hj]
        ·cases hj
       split at hx
       ·rename_i hagg
        split at hx
        ·rename_i hl
         simp only [Option.some.injEq] at hx; subst hx
         have h7 := (run_loadVar_cells (P := P) hu hi (hcell inf.size)).1 hagg (by have := h6.1; simp at hl ⊢; simp at this; omega)
         refine ⟨_, ?_, fin_relV h (.ag ((h6.drop off).take inf.size)) hok hrow hbox⟩
         simp [rvRun, hp, asAddr, h7]
        ·cases hx
       ·rename_i hagg
        split at hx
        ·rename_i c cs' hcs
         simp only [Option.some.injEq] at hx; subst hx
         obtain ⟨u, h8, h9⟩ := (h6.drop off).at_ (i := 0) (c := c) (by rw [hcs]; rfl)
         have h7 := (run_loadVar_cells (P := P) (us := (cur.toList.drop off).take 1) hu hi (hcell 1)).2 (by simpa using hagg) u (by rw [List.getElem?_take]; simpa using h8)
         refine ⟨u, ?_, fin_relV h (.one h9) hok hrow hbox⟩
         simp [rvRun, hp, asAddr, h7]
        ·cases hx
      ·cases hx
     ·cases hx
    ·cases h1
  obtain ⟨rv, rvs', rfl, h3, hrv⟩ := hstep
  simp only [List.mapM_cons, Option.bind_eq_bind, Option.bind_eq_some_iff, Option.pure_def, Option.some.injEq] at h2
  obtain ⟨x, hx, vs', hvs, rfl⟩ := h2
  obtain ⟨u, hu, hrel⟩ := hrv x hx
  obtain ⟨us, hus, hl, hrels⟩ := rv_rel h hok hrow hbox rs rvs' vs' h3 hvs
  refine ⟨u :: us, by simp [List.mapM_cons, hu, hus], by simp [hl], fun i y z h4 h5 => ?_⟩
  match i with
  | 0 => simp at h4 h5; subst h4; subst h5; exact hrel
  | i + 1 => simp at h4 h5; exact hrels i y z h4 h5
theorem res_rel (h : St w0 okA ext N s a w E) {ok' : Nat → Prop} {E' : Env} (hok : ∀ b, okE w0 okA E b → ok' b) (hrow : ∀ k ver z u b, k < XK → E.rm k = some (ver, z, u) → (blkV u) = some b → ok' b) (hbox : ∀ k g, k ≠ 0 → k < XK → E.gm k = some g → ok' g)
  {fn : Func} {rvs : List RV} (hr : compileRes P fn.results.toList = some rvs) {r : Val} (hs : s.res rvs = some r) : ∃ v, (results fn a.tmps).run P w = .ok v w ∧ VRel w ok' w0.heap.size E' r v := by
 unfold AS.res at hs
 have hrun : ∀ us : List Value, (fn.results.toList.mapM (rvRun a.tmps)).run P w = .ok us w → (results fn a.tmps).run P w = .ok (if h : us.toArray.size = 1 then us.toArray[0] else .tuple us.toArray) w := fun us hus => by
  have h1 : results fn a.tmps = (do let vs ← fn.results.mapM (rvRun a.tmps); pure (if h : vs.size = 1 then vs[0] else .tuple vs)) := by
   unfold results
   congr 1
  rw [h1, Array.mapM_eq_mapM_toList]
  simp [hus]
 cases hm : rvs.mapM s.rv with
 | none => rw [hm] at hs; cases hs
 | some vs =>
  rw [hm] at hs
  obtain ⟨us, hus, hl, hrel⟩ := rv_rel (P := P) (E' := E') h hok hrow hbox _ _ _ hr hm
  have hrun2 := hrun us hus
  match vs, us, hl, hrel, hs, hrun2 with
  | [x], [u], _, hrel, hs, hrun2 => simp only [Option.some.injEq] at hs; subst hs; exact ⟨u, by simpa using hrun2, hrel 0 x u rfl rfl⟩
  | [], [], _, hrel, hs, hrun2 => simp only [Option.some.injEq] at hs; subst hs; exact ⟨.tuple #[], by simpa using hrun2, .tu (us := []) rfl (fun i x u h => by simp at h)⟩
  | x :: y :: vs, u :: v :: us, hl, hrel, hs, hrun2 => simp only [Option.some.injEq] at hs; subst hs; exact ⟨.tuple (u :: v :: us).toArray, by simpa using hrun2, .tu hl hrel⟩
theorem slots_at : ∀ (k : Nat) (l : List Val) (t : Nat), tabV (slots k l) t = if k ≤ t then (l[t - k]?).getD .any else .any
 | k, [], t => by simp [slots, tabV]
 | k, v :: l, t => by
  simp only [slots, tabV, slots_at (k + 1) l t]
  by_cases e : t = k
  ·subst e; simp
  ·by_cases hlt : k ≤ t
   ·have h1 : k + 1 ≤ t := by omega
    have h2 : t - k = (t - (k + 1)) + 1 := by omega
    simp [e, hlt, h1, h2]
   ·have h1 : ¬ k + 1 ≤ t := by omega
    simp [e, hlt, h1]
theorem fc_of_awp {f : FuncId} {fn : Func} {c : Code} {xt : Option (List Cel)} {args : List Val} {R : List Cel → Val → Prop} {ac : AC} {anns : List Ann} {rs : List RV} (hf : P.funcs[f]? = some fn) (hb : fn.body = some c) (hnm : (fn.name == "runtime.NumGoroutine") = false)
  (hc : compileCode P fn.ntmps c anns = some (ac, [])) (hr : compileRes P fn.results.toList = some rs) (hN : fn.ntmps ≤ 900000) (hnt : (if xt.isSome then 1 else 0) + args.length ≤ fn.ntmps)
  (h : awp P ac (fpost xt rs R) (initSt xt args)) : FC P f xt args R := by
 refine ⟨⟨fn, hf, by simp [hb], hnm⟩, fun w okA g vs htab hext hlen hargs => ?_⟩
 refine calls_of_wp hf hb ?_
 have hbase : ∀ {tab : List (Nat × Val)} {off : Nat}, off + vs.length ≤ fn.ntmps → True := fun _ => trivial
 cases hx : xt with
 | none =>
  subst hx
  have hT : Tabs P w okA ⟨fun _ => False, fun _ => none, fun _ _ => False, fun _ _ => True, fun t => isBld P t = true⟩ := ⟨htab, fun _ h => h.elim, rfl⟩
  have hst : St w okA ⟨fun _ => False, fun _ => none, fun _ _ => False, fun _ _ => True, fun t => isBld P t = true⟩ fn.ntmps (initSt none args) { tmps := vs.toArray ++ Array.replicate (fn.ntmps - vs.toArray.size) undef, defers := [] } w ⟨fun _ => none, fun _ => none⟩ := by
   refine ⟨by simp at hnt ⊢; omega, rfl, fun t => ?_, fun k cs hk => by simp [initSt, tabO] at hk, fun _ _ => rfl, fun k r hk => by simp [initSt, tabO] at hk, fun _ _ => rfl, fun _ _ _ h => (by cases h), fun _ _ _ _ _ _ h => (by cases h), fun _ _ _ _ _ _ _ _ _ h => (by cases h), fun _ _ h => (by cases h), fun _ _ _ h => (by cases h), hN, fun _ _ _ _ _ h => (by cases h), fun _ _ _ _ _ => trivial, Grew.refl _ _, fun _ _ _ h => by cases h⟩
   simp only [initSt, slots_at, Nat.zero_le, if_true, Nat.sub_zero]
   cases ht : args[t]? with
   | none => exact .any
   | some x =>
    have hlt : t < vs.length := by have := (List.getElem?_eq_some_iff.1 ht).1; omega
    have h1 : (vs.toArray ++ Array.replicate (fn.ntmps - vs.toArray.size) undef).getD t undef = vs[t] := by
     rw [Array.getD_eq_getD_getElem?, Array.getElem?_append_left (by simpa using hlt)]; simp [hlt]
    rw [h1]
    refine (hargs t x _ ht (List.getElem?_eq_getElem hlt)).move (.refl _ w) (fun b hb ho => ⟨fun _ h => by simp at h, fun _ _ _ _ h => by simp at h, .inr ho⟩) (Nat.le_refl _) (EnvLe.refl _)
  refine wp_mono (awp_sound c anns [] ac hc _ _ _ _ _ (by simpa using hst) h) fun e a' w' hq => ?_
  have fin : ∀ s E, St w okA ⟨fun _ => False, fun _ => none, fun _ _ => False, fun _ _ => True, fun t => isBld P t = true⟩ fn.ntmps s a' w' E → (match s.res rs, (none : Option (List Cel)) with | some r, none => R [] r | some r, some _ => False | none, _ => False) → a'.defers = [] ∧ ∃ v, (results fn a'.tmps).run P w' = .ok v w' ∧
    ∃ v' cs' r, Ending.returned v = .returned v' ∧ R cs' r ∧ w.grownBy w' none ∧ VRel w' (fun b => w.heap.size ≤ b ∨ okA b) w.heap.size Env.none r v' ∧
     ((none : Option (List Cel)).isSome = true → ∃ cur ty, w'.heap[g]? = some (.cells cur ty (0, 0)) ∧ CsRel w' (fun b => (w.heap.size ≤ b ∨ okA b) ∧ b ≠ g) w.heap.size Env.none cs' cur.toList) := fun s E hst hR => by
   refine ⟨hst.defers, ?_⟩
   cases hres : s.res rs with
   | none => rw [hres] at hR; exact hR.elim
   | some r =>
    rw [hres] at hR
    obtain ⟨v, hv, hrel⟩ := res_rel (E' := Env.none) (ok' := fun b => w.heap.size ≤ b ∨ okA b) hst (fun b ho => ho.2.2) (fun k ver z u b hk0 hk hu => .inl ((hst.rfr k _ _ u b hk hu).elim id (fun h => by have := h.1; omega))) (fun k g2 h0 hk hg => .inl ((hst.gfr k g2 hg).elim id (fun h => by have := h.2; omega))) hr hres
    exact ⟨v, hv, v, [], r, rfl, hR, ⟨hst.frame.os, hst.frame.tape, hst.frame.output, hst.frame.size, fun k hk _ => hst.frame.block k hk (fun h => h)⟩, hrel, fun h => by cases h⟩
  cases e with
  | normal =>
   obtain ⟨s', E', hst', hq⟩ := hq
   simp only [fpost] at hq
   exact fin s' E' hst' (by cases hres : s'.res rs <;> rw [hres] at hq <;> first | exact hq.elim | exact hq)
  | ret =>
   obtain ⟨s', E', hst', hq⟩ := hq
   simp only [fpost] at hq
   exact fin s' E' hst' (by cases hres : s'.res rs <;> rw [hres] at hq <;> first | exact hq.elim | exact hq)
  | exit id => obtain ⟨s', E', hst', hq⟩ := hq; exact hq.elim
  | _ => exact hq.elim
 | some cs =>
  subst hx
  obtain ⟨hng, cur, ty, hgh, hcs⟩ := hext cs rfl
  have hglt : g < w.heap.size := by
   rcases Nat.lt_or_ge g w.heap.size with hl | hl
   ·exact hl
   ·rw [Array.getElem?_eq_none hl] at hgh; cases hgh
  let E0 : Env := ⟨fun k => if k = 0 then some g else none, fun _ => none⟩
  have hE0 : EnvLe Env.none E0 := ⟨fun k g h => (by cases h), fun k _ _ _ h => (by cases h)⟩
  have hok0 : ∀ b, b < w.heap.size → okA b → okE w okA E0 b := fun b hb ho => ⟨fun k h => (by
   simp only [E0] at h; split at h
   ·injection h with h; subst h; exact hng ho
   ·cases h), fun _ _ _ _ h => (by cases h), .inr ho⟩
  have hgm : ∀ {k g'}, E0.gm k = some g' → k = 0 ∧ g' = g := fun {k g'} h => by
   simp only [E0] at h; split at h
   ·rename_i e; injection h with h; exact ⟨e, h.symm⟩
   ·cases h
  have hT : Tabs P w okA ⟨fun b => b = g, fun _ => some g, fun _ _ => False, fun _ _ => True, fun t => isBld P t = true⟩ := ⟨htab, fun b hb => by subst hb; exact hng, rfl⟩
  have hst : St w okA ⟨fun b => b = g, fun _ => some g, fun _ _ => False, fun _ _ => True, fun t => isBld P t = true⟩ fn.ntmps (initSt (some cs) args) { tmps := (Value.pointer (some ⟨g, 0, none⟩) :: vs).toArray ++ Array.replicate (fn.ntmps - (Value.pointer (some ⟨g, 0, none⟩) :: vs).toArray.size) undef, defers := [] } w E0 := by
   refine ⟨by simp at hnt ⊢; omega, rfl, fun t => ?_, fun k cs' hk => ?_, fun k hk => ?_, fun k r hk => by simp [initSt, tabO] at hk, fun _ _ => rfl, fun k k' g' h h' => by rw [(hgm h).1, (hgm h').1], fun _ _ _ _ _ _ _ h => (by cases h), fun _ _ _ _ _ _ _ _ _ h => (by cases h), fun k g' h => .inr ⟨(hgm h).2, .inl (hgm h).1⟩, fun k g' _ h => by rw [(hgm h).2], hN, fun _ _ _ _ _ h => (by cases h), fun _ _ _ _ _ => trivial, Grew.refl _ _, fun k g' hk h => by rw [(hgm h).1] at hk; cases hk⟩
   ·simp only [initSt, tabV, slots_at]
    by_cases e : t = 0
    ·subst e
     rw [if_pos rfl]
     have h1 : ((Value.pointer (some ⟨g, 0, none⟩) :: vs).toArray ++ Array.replicate (fn.ntmps - (Value.pointer (some ⟨g, 0, none⟩) :: vs).toArray.size) undef).getD 0 undef = .pointer (some ⟨g, 0, none⟩) := by
      rw [Array.getD_eq_getD_getElem?, Array.getElem?_append_left (by simp)]; simp
     rw [h1]; exact .one ⟨g, by simp [E0], rfl⟩
    ·rw [if_neg e, if_pos (by omega)]
     cases ht : args[t - 1]? with
     | none => exact .any
     | some x =>
      have hlt : t - 1 < vs.length := by have := (List.getElem?_eq_some_iff.1 ht).1; omega
      have h1 : ((Value.pointer (some ⟨g, 0, none⟩) :: vs).toArray ++ Array.replicate (fn.ntmps - (Value.pointer (some ⟨g, 0, none⟩) :: vs).toArray.size) undef).getD t undef = vs[t - 1] := by
       obtain ⟨t', rfl⟩ : ∃ t', t = t' + 1 := ⟨t - 1, by omega⟩
       rw [Array.getD_eq_getD_getElem?, Array.getElem?_append_left (by simp at hlt ⊢; omega)]; simp at hlt ⊢; simp [hlt]
      rw [h1]
      exact (hargs (t - 1) x _ ht (List.getElem?_eq_getElem hlt)).move (.refl _ w) hok0 (Nat.le_refl _) hE0
   ·simp only [initSt, tabO] at hk
    split at hk
    ·rename_i e; subst e; simp only [Option.some.injEq] at hk; subst hk
     exact ⟨g, cur, ty, by simp [E0], hgh, hcs.move (.refl _ w) hok0 (Nat.le_refl _) hE0⟩
    ·cases hk
   ·simp only [initSt, tabO] at hk
    split at hk
    ·cases hk
    ·rename_i e; simp [E0, e]
  refine wp_mono (awp_sound c anns [] ac hc _ _ _ _ _ (by simpa using hst) h) fun e a' w' hq => ?_
  have fin : ∀ s E, St w okA ⟨fun b => b = g, fun _ => some g, fun _ _ => False, fun _ _ => True, fun t => isBld P t = true⟩ fn.ntmps s a' w' E → (∃ r cs', s.res rs = some r ∧ s.bx 0 = some cs' ∧ R (cs'.map s.finC) r) → a'.defers = [] ∧ ∃ v, (results fn a'.tmps).run P w' = .ok v w' ∧
    ∃ v' cs' r, Ending.returned v = .returned v' ∧ R cs' r ∧ w.grownBy w' (some g) ∧ VRel w' (fun b => w.heap.size ≤ b ∨ okA b) w.heap.size Env.none r v' ∧
     ((some cs).isSome = true → ∃ cur ty, w'.heap[g]? = some (.cells cur ty (0, 0)) ∧ CsRel w' (fun b => (w.heap.size ≤ b ∨ okA b) ∧ b ≠ g) w.heap.size Env.none cs' cur.toList) := fun s E hst ⟨r, cs', hres, hbx, hR⟩ => by
   refine ⟨hst.defers, ?_⟩
   obtain ⟨v, hv, hrel⟩ := res_rel (E' := Env.none) (ok' := fun b => w.heap.size ≤ b ∨ okA b) hst (fun b ho => ho.2.2) (fun k ver z u b hk0 hk hu => .inl ((hst.rfr k _ _ u b hk hu).elim id (fun h => by have := h.1; omega))) (fun k g2 h0 hk hg => .inl ((hst.gfr k g2 hg).elim id (fun h => by have := h.2; omega))) hr hres
   obtain ⟨g', cur', ty', h1, h2, h3⟩ := hst.bx 0 cs' hbx
   have hgg : g' = g := by
    have := hst.gx 0 g' (.inl rfl) h1; injection this with this; exact this.symm
   subst hgg
   refine ⟨v, hv, v, cs'.map s.finC, r, rfl, hR, ⟨hst.frame.os, hst.frame.tape, hst.frame.output, hst.frame.size, fun k hk hne => hst.frame.block k hk (fun e => hne (by simpa using e))⟩, hrel, fun _ => ⟨cur', ty', h2, by simpa using h3.1, fun i c u h5 h6 => ?_⟩⟩
   rw [List.getElem?_map] at h5
   cases hi : cs'[i]? with
   | none => rw [hi] at h5; cases h5
   | some c0 =>
    rw [hi] at h5; simp at h5; subst h5
    exact fin_relC hst (h3.2 i c0 u hi h6) (fun b ho => ⟨ho.2.2, fun e => ho.1 0 (by rw [h1, e])⟩) (fun k ver z u b hk0 hk hu => ⟨.inl ((hst.rfr k _ _ u b hk hu).elim id (fun h => by have := h.1; omega)), fun e => hst.gr 0 g' k ver z u h1 hk (by rw [hu, e])⟩) (fun k g2 h0 hk hg => ⟨.inl ((hst.gfr k g2 hg).elim id (fun h => by have := h.2; omega)), fun e => h0 (hst.ginj k 0 g' (by rw [← e]; exact hg) h1)⟩)
  have ends : ∀ s' : AS, (match s'.res rs, (some cs : Option (List Cel)) with
    | some r, none => R [] r
    | some r, some _ => match s'.bx 0 with
     | some cs => R (cs.map s'.finC) r
     | none => False
    | none, _ => False) → ∃ r cs', s'.res rs = some r ∧ s'.bx 0 = some cs' ∧ R (cs'.map s'.finC) r := fun s' hq => by
   cases hres : s'.res rs with
   | none => rw [hres] at hq; exact hq.elim
   | some r =>
    rw [hres] at hq
    cases hb0 : s'.bx 0 with
    | none => rw [hb0] at hq; exact hq.elim
    | some cs' => rw [hb0] at hq; exact ⟨r, cs', rfl, rfl, hq⟩
  cases e with
  | normal =>
   obtain ⟨s', E', hst', hq⟩ := hq
   exact fin s' E' hst' (ends s' hq)
  | ret =>
   obtain ⟨s', E', hst', hq⟩ := hq
   exact fin s' E' hst' (ends s' hq)
  | exit id => obtain ⟨s', E', hst', hq⟩ := hq; exact hq.elim
  | _ => exact hq.elim
end
end Go.Ai
namespace Go.Ai
open Go
set_option linter.unusedSimpArgs false
set_option linter.unusedVariables false
set_option linter.unusedSectionVars false
def initM (H : Hp) (args : List Val) : AS := ⟨tabV (slots 0 args), tabO H.bs, tabO H.rs⟩
/-- What is handed back: the boxes and rows of K. -/
def AS.outH (s : AS) (K : Keep) : Hp :=
 ⟨K.bs.filterMap fun k => (s.bx k).map fun cs => (k, cs.map (s.renC (K.at kz))), K.rs.filterMap fun k => (s.rw k).map fun r => (k, { r with ver := 0 })⟩
def AS.rvK (s : AS) (K : Keep) : RV → Option Val
 | .t n => some (s.ren (K.at kz) (s.tm n))
 | .cell n agg sz => match s.tm n with
  | .one (.bx k off) => match s.bx k with
   | some cs => if agg then (if sz ≤ (cs.drop off).length then some (s.ren (K.at kz) (.ag ((cs.drop off).take sz))) else none) else (match cs.drop off with | c :: _ => some (s.ren (K.at kz) (.one c)) | [] => none)
   | none => none
  | _ => none
def AS.resK (s : AS) (K : Keep) (rs : List RV) : Option Val :=
 match rs.mapM (s.rvK K) with
 | some [v] => some v
 | some vs => some (.tu vs)
 | none => none
/-- Rows keep the size of their elements. -/
def zOk : List (Nat × Row) → List (Nat × Row) → Bool
 | [], _ => true
 | (k, r) :: l, l' => (match tabO l' k with | some r' => r'.z == r.z | none => true) && zOk l l'
theorem zOk_at : ∀ {l l' : List (Nat × Row)}, zOk l l' = true → ∀ {k : Nat} {r r' : Row}, tabO l k = some r → tabO l' k = some r' → r'.z = r.z
 | [], _, _, k, r, r', h, _ => by simp [tabO] at h
 | (j, r0) :: l, l', h, k, r, r', h1, h2 => by
  simp only [zOk, Bool.and_eq_true] at h
  simp only [tabO] at h1
  by_cases e : k = j
  ·subst e
   rw [if_pos rfl] at h1
   simp only [Option.some.injEq] at h1; subst h1
   rw [h2] at h
   simpa using h.1
  ·rw [if_neg e] at h1
   exact zOk_at h.2 h1 h2
def mpost (H : Hp) (K : Keep) (rs : List RV) (R : Hp → Val → Prop) : AX → AS → Prop
 | .ex _, _ => False
 | _, s => match s.resK K rs with
  | some r => zOk H.rs (s.outH K).rs = true ∧ R (s.outH K) r
  | none => False
/-- Rows that are where they were. -/
def stOk (S : List Nat) (s : AS) : Bool := S.all fun k => decide (XK ≤ k) && (match s.rw k with | some r => r.ver == 0 | none => true)
def mpostS (S : List Nat) (H : Hp) (K : Keep) (rs : List RV) (R : Hp → Val → Prop) (e : AX) (s : AS) : Prop := stOk S s = true ∧ mpost H K rs R e s
section
variable {P : Program} {w0 w w' : World} {okA : Nat → Prop} {ext : Ext} {N : Nat} {s : AS} {a : Act} {E : Env}
theorem rvK_rel (h : St w0 okA ext N s a w E) (K : Keep) :
  ∀ (rs : List ResultVar) (rvs : List RV) (vs : List Val), compileRes P rs = some rvs → rvs.mapM (s.rvK K) = some vs →
   ∃ us, (rs.mapM (rvRun a.tmps)).run P w = .ok us w ∧ vs.length = us.length ∧ ∀ (i : Nat) (x : Val) (u : Value), vs[i]? = some x → us[i]? = some u → VRel w (okE w0 okA (E.keep (K.at kz))) w0.heap.size (E.keep (K.at kz)) x u
 | [], rvs, vs, h1, h2 => by
  simp [compileRes] at h1; subst h1; simp at h2; subst h2
  exact ⟨[], rfl, rfl, fun i x u h => by simp at h⟩
 | r :: rs, rvs, vs, h1, h2 => by
  have hstep : ∃ rv rvs', rvs = rv :: rvs' ∧ compileRes P rs = some rvs' ∧ ∀ x, s.rvK K rv = some x → ∃ u, (rvRun a.tmps r).run P w = .ok u w ∧ VRel w (okE w0 okA (E.keep (K.at kz))) w0.heap.size (E.keep (K.at kz)) x u := by
   cases r with
   | tmp t =>
    simp only [compileRes, Option.map_eq_some_iff] at h1
    obtain ⟨rvs', h3, rfl⟩ := h1
    refine ⟨_, _, rfl, h3, fun x hx => ?_⟩
    simp only [AS.rvK, Option.some.injEq] at hx; subst hx
    exact ⟨_, rfl, ren_vrel h (K.at kz) (h.tm t)⟩
   | cell k t =>
    simp only [compileRes] at h1
    split at h1
    ·rename_i ag n rvs' ht h3
     simp only [Option.some.injEq] at h1; subst h1
     obtain ⟨d, inf, hu, hi, he⟩ := ty_of ht
     simp only [Prod.mk.injEq] at he; obtain ⟨rfl, rfl⟩ := he
     refine ⟨_, _, rfl, h3, fun x hx => ?_⟩
     simp only [AS.rvK] at hx
     split at hx
     ·rename_i kk off hv
      split at hx
      ·rename_i cs hs
       have htm := h.tm k
       rw [hv] at htm
       obtain ⟨g, hg, hp⟩ := one_c htm rfl
       obtain ⟨g', cur, ty, h4, h5, h6⟩ := h.bx kk cs hs
       rw [hg] at h4; injection h4 with h4; subst h4
       have hcell : ∀ (m : Nat) (j : Nat) (u : Value), ((cur.toList.drop off).take m)[j]? = some u → w.cell? ⟨g, off + j, none⟩ = some u := fun m j u hj => by
        rw [List.getElem?_take] at hj
        split at hj
        ·rw [List.getElem?_drop] at hj
         rw [cell_of_row w g (off + j) cur ty (0, 0) h5, ← Array.getElem?_toList, hj]
        ·cases hj
       split at hx
       ·rename_i hagg
        split at hx
        ·rename_i hl
         simp only [Option.some.injEq] at hx; subst hx
         have h7 := (run_loadVar_cells (P := P) hu hi (hcell inf.size)).1 hagg (by have := h6.1; simp at hl ⊢; simp at this; omega)
         refine ⟨_, ?_, ren_vrel h (K.at kz) (.ag ((h6.drop off).take inf.size))⟩
         simp [rvRun, hp, asAddr, h7]
        ·cases hx
       ·rename_i hagg
        split at hx
        ·rename_i c cs' hcs
         simp only [Option.some.injEq] at hx; subst hx
         obtain ⟨u, h8, h9⟩ := (h6.drop off).at_ (i := 0) (c := c) (by rw [hcs]; rfl)
         have h7 := (run_loadVar_cells (P := P) (us := (cur.toList.drop off).take 1) hu hi (hcell 1)).2 (by simpa using hagg) u (by rw [List.getElem?_take]; simpa using h8)
         refine ⟨u, ?_, ren_vrel h (K.at kz) (.one h9)⟩
         simp [rvRun, hp, asAddr, h7]
        ·cases hx
      ·cases hx
     ·cases hx
    ·cases h1
  obtain ⟨rv, rvs', rfl, h3, hrv⟩ := hstep
  simp only [List.mapM_cons, Option.bind_eq_bind, Option.bind_eq_some_iff, Option.pure_def, Option.some.injEq] at h2
  obtain ⟨x, hx, vs', hvs, rfl⟩ := h2
  obtain ⟨u, hu, hrel⟩ := hrv x hx
  obtain ⟨us, hus, hl, hrels⟩ := rvK_rel h K rs rvs' vs' h3 hvs
  refine ⟨u :: us, by simp [List.mapM_cons, hu, hus], by simp [hl], fun i y z h4 h5 => ?_⟩
  match i with
  | 0 => simp at h4 h5; subst h4; subst h5; exact hrel
  | i + 1 => simp at h4 h5; exact hrels i y z h4 h5
theorem resK_rel (h : St w0 okA ext N s a w E) (K : Keep) {fn : Func} {rvs : List RV} (hr : compileRes P fn.results.toList = some rvs) {r : Val} (hs : s.resK K rvs = some r) :
  ∃ v, (results fn a.tmps).run P w = .ok v w ∧ VRel w (okE w0 okA (E.keep (K.at kz))) w0.heap.size (E.keep (K.at kz)) r v := by
 unfold AS.resK at hs
 have hrun : ∀ us : List Value, (fn.results.toList.mapM (rvRun a.tmps)).run P w = .ok us w → (results fn a.tmps).run P w = .ok (if h : us.toArray.size = 1 then us.toArray[0] else .tuple us.toArray) w := fun us hus => by
  have h1 : results fn a.tmps = (do let vs ← fn.results.mapM (rvRun a.tmps); pure (if h : vs.size = 1 then vs[0] else .tuple vs)) := by
   unfold results
   congr 1
  rw [h1, Array.mapM_eq_mapM_toList]
  simp [hus]
 cases hm : rvs.mapM (s.rvK K) with
 | none => rw [hm] at hs; cases hs
 | some vs =>
  rw [hm] at hs
  obtain ⟨us, hus, hl, hrel⟩ := rvK_rel (P := P) h K _ _ _ hr hm
  have hrun2 := hrun us hus
  match vs, us, hl, hrel, hs, hrun2 with
  | [x], [u], _, hrel, hs, hrun2 => simp only [Option.some.injEq] at hs; subst hs; exact ⟨u, by simpa using hrun2, hrel 0 x u rfl rfl⟩
  | [], [], _, hrel, hs, hrun2 => simp only [Option.some.injEq] at hs; subst hs; exact ⟨.tuple #[], by simpa using hrun2, .tu (us := []) rfl (fun i x u h => by simp at h)⟩
  | x :: y :: vs, u :: v :: us, hl, hrel, hs, hrun2 => simp only [Option.some.injEq] at hs; subst hs; exact ⟨.tuple (u :: v :: us).toArray, by simpa using hrun2, .tu hl hrel⟩
theorem fcms_of_awp {f : FuncId} {fn : Func} {c : Code} {S : List Nat} {H : Hp} {K : Keep} {args : List Val} {R : Hp → Val → Prop} {ac : AC} {anns : List Ann} {rs : List RV} (hf : P.funcs[f]? = some fn) (hb : fn.body = some c) (hnm : (fn.name == "runtime.NumGoroutine") = false)
  (hc : compileCode P fn.ntmps c anns = some (ac, [])) (hr : compileRes P fn.results.toList = some rs) (hN : fn.ntmps ≤ 900000) (hnt : args.length ≤ fn.ntmps)
  (hkb : ∀ p ∈ H.bs, p.1 = 0 ∨ XK ≤ p.1) (hkr : ∀ p ∈ H.rs, XK ≤ p.1)
  (h : awp P ac (mpostS S H K rs R) (initM H args)) : FCMS P f S H args R := by
 refine ⟨⟨fn, hf, by simp [hb], hnm⟩, fun w okA E vs htab hH hno htyb hlen hargs => ?_⟩
 refine calls_of_wp hf hb ?_
 have hb0 : ∀ {k g}, E.gm k = some g → k ∈ H.bs.map (·.1) := fun {k g} hk => by
  apply Classical.byContradiction
  intro hno
  rw [hH.bxn k (tabO_none hno)] at hk; cases hk
 have hr0 : ∀ {k ver z u}, E.rm k = some (ver, z, u) → k ∈ H.rs.map (·.1) := fun {k ver z u} hk => by
  apply Classical.byContradiction
  intro hno
  rw [hH.rwn k (tabO_none hno)] at hk; cases hk
 have hrk : ∀ {k ver z u}, E.rm k = some (ver, z, u) → XK ≤ k := fun {k ver z u} hk => by
  obtain ⟨p, h1, rfl⟩ := List.mem_map.1 (hr0 hk); exact hkr p h1
 have hok0 : ∀ b, b < w.heap.size → okA b → okE w okA E b := fun b hb ho => ⟨fun k hk => hno b (.inl ⟨k, hk⟩) ho, fun k ver z u hk hu => hno b (.inr ⟨k, ver, z, u, hk, hu⟩) ho, .inr ho⟩
 have hT : Tabs P w okA ⟨E.own, E.gm, fun k b => ∃ ver z u, E.rm k = some (ver, z, u) ∧ (blkV u) = some b, fun k u => ∃ z, E.rm k = some (0, z, u), fun t => isBld P t = true⟩ := ⟨htab, hno, rfl⟩
 have hst : St w okA ⟨E.own, E.gm, fun k b => ∃ ver z u, E.rm k = some (ver, z, u) ∧ (blkV u) = some b, fun k u => ∃ z, E.rm k = some (0, z, u), fun t => isBld P t = true⟩ fn.ntmps (initM H args) { tmps := vs.toArray ++ Array.replicate (fn.ntmps - vs.toArray.size) undef, defers := [] } w E := by
  refine ⟨by simp at hnt ⊢; omega, rfl, fun t => ?_, fun k cs hk => ?_, hH.bxn, fun k r0 hk => ?_, hH.rwn, hH.ginj, hH.gr, hH.rr, fun k g hk => .inr ⟨.inl ⟨k, hk⟩, by obtain ⟨p, h1, rfl⟩ := List.mem_map.1 (hb0 hk); exact hkb p h1⟩, fun k g _ hk => hk, hN, fun k ver z u b hk hu => .inr ⟨hrk hk, ⟨ver, z, u, hk, hu⟩, .inr ⟨k, ver, z, u, hk, hu⟩⟩, fun k z u _ hk => ⟨z, hk⟩, Grew.refl _ _, htyb⟩
  ·simp only [initM, slots_at, Nat.zero_le, if_true, Nat.sub_zero]
   cases ht : args[t]? with
   | none => exact .any
   | some x =>
    have hlt : t < vs.length := by have := (List.getElem?_eq_some_iff.1 ht).1; omega
    have h1 : (vs.toArray ++ Array.replicate (fn.ntmps - vs.toArray.size) undef).getD t undef = vs[t] := by
     rw [Array.getD_eq_getD_getElem?, Array.getElem?_append_left (by simpa using hlt)]; simp [hlt]
    rw [h1]
    exact (hargs t x _ ht (List.getElem?_eq_getElem hlt)).move (.refl _ w) hok0 (Nat.le_refl _) (.refl E)
  ·obtain ⟨g, cur, ty, h1, h2, h3⟩ := hH.bx k cs hk
   exact ⟨g, cur, ty, h1, h2, h3.move (.refl _ w) hok0 (Nat.le_refl _) (.refl E)⟩
  ·obtain ⟨h1, h2, u, vs', h3, h4, h5⟩ := hH.rw k r0 hk
   exact ⟨h1, h2, u, vs', h3, h4, h5.move (.refl _ w) hok0 (Nat.le_refl _)⟩
 refine wp_mono (awp_sound c anns [] ac hc _ _ _ _ _ (by simpa using hst) h) fun e a' w' hq => ?_
 have fin : ∀ s' E', St w okA ⟨E.own, E.gm, fun k b => ∃ ver z u, E.rm k = some (ver, z, u) ∧ (blkV u) = some b, fun k u => ∃ z, E.rm k = some (0, z, u), fun t => isBld P t = true⟩ fn.ntmps s' a' w' E' → (stOk S s' = true ∧ ∃ r, s'.resK K rs = some r ∧ zOk H.rs (s'.outH K).rs = true ∧ R (s'.outH K) r) →
   a'.defers = [] ∧ ∃ v, (results fn a'.tmps).run P w' = .ok v w' ∧ ∃ v' H' r E'', Ending.returned v = .returned v' ∧ R H' r ∧ Grew E.own w w' ∧
    HRel w' (okE w okA E'') w.heap.size E'' (tabO H'.bs) (tabO H'.rs) ∧ VRel w' (okE w okA E'') w.heap.size E'' r v' ∧
    (∀ k g g', E.gm k = some g → E''.gm k = some g' → g = g') ∧ (∀ k g, E''.gm k = some g → w.heap.size ≤ g ∨ E.gm k = some g) ∧
    (∀ k ver z u b, E''.rm k = some (ver, z, u) → (blkV u) = some b → w.heap.size ≤ b ∨ ∃ ver' z' u', E.rm k = some (ver', z', u') ∧ (blkV u') = some b) ∧
    (∀ k r0, tabO H'.rs k = some r0 → r0.ver = 0) ∧ (∀ k r0 r1, tabO H.rs k = some r0 → tabO H'.rs k = some r1 → r1.z = r0.z) ∧
    (∀ k ver ver' z z' u u', k ∈ S → E.rm k = some (ver, z, u) → E''.rm k = some (ver', z', u') → u = u') ∧ (∀ k g, bldK k = true → E.gm k = some g → E''.gm k = some g → ∃ cur T, w'.heap[g]? = some (.cells cur T (0, 0)) ∧ isBld P T = true) := fun s' E' hst' ⟨hso, r, hres, hz, hR⟩ => by
  obtain ⟨v, hv, hrel⟩ := resK_rel (P := P) hst' K hr hres
  have hk := hst'.free.keepE (K.at kz) (.inr fun _ _ => trivial) (fun _ => rfl)
  have hgm : ∀ {k g}, (E'.keep (K.at kz)).gm k = some g → E'.gm k = some g := fun {k g} hk => by
   simp only [Env.keep] at hk; split at hk
   ·exact hk
   ·cases hk
  refine ⟨hst'.defers, v, hv, v, s'.outH K, r, E'.keep (K.at kz), rfl, hR, hst'.frame, ⟨hk.bx, hk.bxn, hk.rw, hk.rwn, hk.ginj, hk.gr, hk.rr⟩, hrel, fun k g g' h1 h2 => ?_, fun k g h1 => (hst'.gfr k g (hgm h1)).imp id fun h2 => hst'.gx k g h2.2 (hgm h1), fun k ver z u b h1 h2 => ?_, fun k r0 h1 => ?_, fun k r0 r1 h1 h2 => zOk_at hz h1 h2, fun k ver ver' z z' u u' hkS h1 h2 => ?_, fun k g hbk _ h2 => hst'.bt k g hbk (hgm h2)⟩
  ·obtain ⟨p, hp, hpk⟩ := List.mem_map.1 (hb0 h1)
   have h3 := hst'.gx k g' (by rw [← hpk]; exact hkb p hp) (hgm h2)
   have h4 : E.gm k = some g' := h3
   rw [h1] at h4; injection h4
  ·have h3 := hk.rfr k ver z u b h1 h2
   exact h3.imp id (fun h => h.2.1)
  ·have hrw := tabO_filterMap (β := Row) s'.rw (fun _ r => { r with ver := 0 }) K.rs k
   rw [show tabO (s'.outH K).rs k = _ from hrw] at h1
   split at h1
   ·cases hx : s'.rw k with
    | none => rw [hx] at h1; cases h1
    | some r2 => rw [hx] at h1; simp at h1; subst h1; rfl
   ·cases h1
  ·have h3 := List.all_eq_true.1 hso k hkS
   simp only [Bool.and_eq_true, decide_eq_true_eq] at h3
   simp only [Env.keep] at h2; split at h2
   ·cases hx : E'.rm k with
    | none => rw [hx] at h2; cases h2
    | some x =>
     obtain ⟨x1, x2, x3⟩ := x
     rw [hx] at h2; simp at h2
     obtain ⟨_, rfl, rfl⟩ := h2
     cases hy : s'.rw k with
     | none => rw [hst'.rwn k hy] at hx; cases hx
     | some r2 =>
      rw [hy] at h3
      obtain ⟨_, _, u0, _, h4, _⟩ := hst'.rw k r2 hy
      have h5 : r2.ver = 0 := by simpa using h3.2
      rw [hx, h5] at h4
      simp only [Option.some.injEq, Prod.mk.injEq] at h4
      obtain ⟨rfl, _, _⟩ := h4
      obtain ⟨z0, h6⟩ := hst'.rst k _ _ h3.1 hx
      rw [h1] at h6
      simp only [Option.some.injEq, Prod.mk.injEq] at h6
      exact h6.2.2
   ·cases h2
 have ends : ∀ s' : AS, (match s'.resK K rs with | some r => zOk H.rs (s'.outH K).rs = true ∧ R (s'.outH K) r | none => False) → ∃ r, s'.resK K rs = some r ∧ zOk H.rs (s'.outH K).rs = true ∧ R (s'.outH K) r := fun s' hq => by
  cases hres : s'.resK K rs with
  | none => rw [hres] at hq; exact hq.elim
  | some r => rw [hres] at hq; exact ⟨r, rfl, hq.1, hq.2⟩
 cases e with
 | normal => obtain ⟨s', E', hst', hq⟩ := hq; exact fin s' E' hst' ⟨hq.1, ends s' hq.2⟩
 | ret => obtain ⟨s', E', hst', hq⟩ := hq; exact fin s' E' hst' ⟨hq.1, ends s' hq.2⟩
 | exit id => obtain ⟨s', E', hst', hq⟩ := hq; exact hq.2.elim
 | _ => exact hq.elim
theorem fcm_of_awp {f : FuncId} {fn : Func} {c : Code} {H : Hp} {K : Keep} {args : List Val} {R : Hp → Val → Prop} {ac : AC} {anns : List Ann} {rs : List RV} (hf : P.funcs[f]? = some fn) (hb : fn.body = some c) (hnm : (fn.name == "runtime.NumGoroutine") = false)
  (hc : compileCode P fn.ntmps c anns = some (ac, [])) (hr : compileRes P fn.results.toList = some rs) (hN : fn.ntmps ≤ 900000) (hnt : args.length ≤ fn.ntmps)
  (hkb : ∀ p ∈ H.bs, p.1 = 0 ∨ XK ≤ p.1) (hkr : ∀ p ∈ H.rs, XK ≤ p.1)
  (h : awp P ac (mpost H K rs R) (initM H args)) : FCM P f H args R :=
 fcms_of_awp hf hb hnm hc hr hN hnt hkb hkr (awp_mono ac _ _ (fun e s h => ⟨rfl, h⟩) _ h)
end
/-! ### other names for keys -/
section
variable {P : Program} {w : World} {ok : Nat → Prop} {base : Nat} {E : Env} {p q : Nat → Nat}
def rnC0 (p q : Nat → Nat) : Cel → Cel
 | .bx k off => .bx (p k) off
 | .ow k ver => .ow (q k) ver
 | .op k ver i off => .op (q k) ver i off
 | .os k ver lo => .os (q k) ver lo
 | .ws k ver lo hi => .ws (q k) ver lo hi
 | .mp k => .mp (q k)
 | c => c
def rnC (p q : Nat → Nat) : Cel → Cel
 | .fn f caps => .fn f (caps.map (rnC0 p q))
 | .mv f caps => .mv f (caps.map (rnC0 p q))
 | c => rnC0 p q c
def rnV (p q : Nat → Nat) : Val → Val
 | .one c => .one (rnC p q c)
 | .ag cs => .ag (cs.map (rnC p q))
 | .tu vs => .tu (vs.map fun v => match v with | .one c => .one (rnC p q c) | .ag cs => .ag (cs.map (rnC p q)) | _ => .any)
 | .any => .any
def Hp.rn (p q : Nat → Nat) (H : Hp) : Hp := ⟨H.bs.map fun x => (p x.1, x.2.map (rnC p q)), H.rs.map fun x => (q x.1, x.2)⟩
def Env.rn (p q : Nat → Nat) (E : Env) : Env := ⟨fun k => E.gm (p k), fun k => E.rm (q k)⟩
theorem rn_rel0 (hp : ∀ k, p (p k) = k) (hq : ∀ k, q (q k) = k) {c : Cel} {v : Value} (h : CRel0 w ok base E c v) : CRel0 w ok base (E.rn p q) (rnC0 p q c) v := by
 cases c with
 | bx k off => obtain ⟨g, hg, rfl⟩ := h; exact ⟨g, by simp [Env.rn, hp, hg], rfl⟩
 | ow k ver => obtain ⟨h1, ver', z, u, hr, h2, h3⟩ := h; exact ⟨h1, ver', z, u, by simp [Env.rn, hq, hr], h2, h3⟩
 | op k ver i off => obtain ⟨h1, ver', z, u, hr, h2, h3⟩ := h; exact ⟨h1, ver', z, u, by simp [Env.rn, hq, hr], h2, h3⟩
 | os k ver lo => obtain ⟨h1, ver', z, u, hr, h2, h3⟩ := h; exact ⟨h1, ver', z, u, by simp [Env.rn, hq, hr], h2, h3⟩
 | ws k ver lo hi => obtain ⟨h1, ver', z, u, hr, h2, h3⟩ := h; exact ⟨h1, ver', z, u, by simp [Env.rn, hq, hr], h2, h3⟩
 | mp k => obtain ⟨h1, ver', u, hr, h2⟩ := h; exact ⟨h1, ver', u, by simp [Env.rn, hq, hr], h2⟩
 | _ => exact h
theorem rn_rel (hp : ∀ k, p (p k) = k) (hq : ∀ k, q (q k) = k) {c : Cel} {v : Value} (h : CRel w ok base E c v) : CRel w ok base (E.rn p q) (rnC p q c) v := by
 cases c with
 | fn f caps =>
  obtain ⟨us, rfl, hl, hcs⟩ := h
  refine ⟨us, rfl, by simpa using hl, fun i c u h1 h2 => ?_⟩
  rw [List.getElem?_map] at h1
  cases hi : caps[i]? with
  | none => rw [hi] at h1; cases h1
  | some c0 => rw [hi] at h1; simp at h1; subst h1; exact rn_rel0 hp hq (hcs i c0 u hi h2)
 | mv f caps =>
  obtain ⟨us, rfl, hl, hcs⟩ := h
  refine ⟨us, rfl, by simpa using hl, fun i c u h1 h2 => ?_⟩
  rw [List.getElem?_map] at h1
  cases hi : caps[i]? with
  | none => rw [hi] at h1; cases h1
  | some c0 => rw [hi] at h1; simp at h1; subst h1; exact rn_rel0 hp hq (hcs i c0 u hi h2)
 | g u => exact h
 | sl fr z es => exact h
 | ep cs => exact h
 | any => exact h
 | bx k off => exact (rn_rel0 hp hq (c := .bx k off) h).toC
 | ow k ver => exact (rn_rel0 hp hq (c := .ow k ver) h).toC
 | op k ver i off => exact (rn_rel0 hp hq (c := .op k ver i off) h).toC
 | os k ver lo => exact (rn_rel0 hp hq (c := .os k ver lo) h).toC
 | ws k ver lo hi => exact (rn_rel0 hp hq (c := .ws k ver lo hi) h).toC
 | mp k => exact (rn_rel0 hp hq (c := .mp k) h).toC
 | fm kc es => exact h
theorem rn_relCs (hp : ∀ k, p (p k) = k) (hq : ∀ k, q (q k) = k) {cs : List Cel} {us : List Value} (h : CsRel w ok base E cs us) : CsRel w ok base (E.rn p q) (cs.map (rnC p q)) us := by
 refine ⟨by simpa using h.1, fun i c u h2 h3 => ?_⟩
 rw [List.getElem?_map] at h2
 cases hi : cs[i]? with
 | none => rw [hi] at h2; cases h2
 | some c0 => rw [hi] at h2; simp at h2; subst h2; exact rn_rel hp hq (h.2 i c0 u hi h3)
theorem rn_relV (hp : ∀ k, p (p k) = k) (hq : ∀ k, q (q k) = k) {x : Val} {v : Value} (h : VRel w ok base E x v) : VRel w ok base (E.rn p q) (rnV p q x) v := by
 cases h with
 | one h1 => exact .one (rn_rel hp hq h1)
 | ag h1 => exact .ag (rn_relCs hp hq h1)
 | any => exact .any
 | @tu vs us hl h1 =>
  refine .tu (by simpa using hl) fun i x u h2 h3 => ?_
  rw [List.getElem?_map] at h2
  cases hi : vs[i]? with
  | none => rw [hi] at h2; cases h2
  | some x0 =>
   rw [hi] at h2; simp at h2; subst h2
   cases h1 i x0 u hi h3 with
   | one h5 => exact .one (rn_rel hp hq h5)
   | ag h5 => exact .ag (rn_relCs hp hq h5)
   | tu => exact .any
   | any => exact .any
theorem tabO_rn {α β : Type} (p : Nat → Nat) (f : α → β) (hp : ∀ k, p (p k) = k) : ∀ (l : List (Nat × α)) (k : Nat), tabO (l.map fun x => (p x.1, f x.2)) k = (tabO l (p k)).map f
 | [], k => rfl
 | (j, v) :: l, k => by
  simp only [List.map_cons, tabO, tabO_rn p f hp l k]
  by_cases e : k = p j
  ·have : p k = j := by rw [e, hp]
   rw [if_pos e, if_pos this]; rfl
  ·have : ¬ p k = j := fun h => e (by rw [← h, hp])
   rw [if_neg e, if_neg this]
theorem Env.rn_rn (hp : ∀ k, p (p k) = k) (hq : ∀ k, q (q k) = k) : (E.rn p q).rn p q = E := by
 cases E; simp [Env.rn, hp, hq]
theorem rn_own (hp : ∀ k, p (p k) = k) (hq : ∀ k, q (q k) = k) {b : Nat} : (E.rn p q).own b ↔ E.own b := by
 constructor
 ·rintro (⟨k, h⟩ | ⟨k, ver, z, u, h, h2⟩)
  ·exact .inl ⟨p k, h⟩
  ·exact .inr ⟨q k, ver, z, u, h, h2⟩
 ·rintro (⟨k, h⟩ | ⟨k, ver, z, u, h, h2⟩)
  ·exact .inl ⟨p k, by simpa [Env.rn, hp] using h⟩
  ·exact .inr ⟨q k, ver, z, u, by simpa [Env.rn, hq] using h, h2⟩
theorem rn_HRel (hp : ∀ k, p (p k) = k) (hq : ∀ k, q (q k) = k) {H : Hp} (h : HRel w ok base E (tabO H.bs) (tabO H.rs)) : HRel w ok base (E.rn p q) (tabO (H.rn p q).bs) (tabO (H.rn p q).rs) := by
 have e1 : ∀ k, tabO (H.rn p q).bs k = (tabO H.bs (p k)).map (fun cs => cs.map (rnC p q)) := fun k => by have := tabO_rn p (fun (cs : List Cel) => cs.map (rnC p q)) hp H.bs k; simpa [Hp.rn] using this
 have e2 : ∀ k, tabO (H.rn p q).rs k = tabO H.rs (q k) := fun k => by have := tabO_rn q (fun r : Row => r) hq H.rs k; simpa [Hp.rn] using this
 refine ⟨fun k cs hk => ?_, fun k hk => ?_, fun k r0 hk => ?_, fun k hk => ?_, fun k k' g h1 h2 => ?_, fun k g k' ver z u h1 h2 => h.gr (p k) g (q k') ver z u h1 h2, fun k ver z u k' ver' z' u' b h1 h2 h3 h4 => ?_⟩
 ·rw [e1] at hk
  cases hx : tabO H.bs (p k) with
  | none => rw [hx] at hk; cases hk
  | some cs0 =>
   rw [hx] at hk; simp at hk; subst hk
   obtain ⟨g, cur, ty, h1, h2, h3⟩ := h.bx _ _ hx
   exact ⟨g, cur, ty, h1, h2, rn_relCs hp hq h3⟩
 ·rw [e1] at hk; exact h.bxn _ (by simpa using hk)
 ·rw [e2] at hk; exact h.rw _ _ hk
 ·rw [e2] at hk; exact h.rwn _ hk
 ·have := h.ginj _ _ _ h1 h2
  have := congrArg p this; rwa [hp, hp] at this
 ·have := h.rr _ _ _ _ _ _ _ _ _ h1 h2 h3 h4
  have := congrArg q this; rwa [hq, hq] at this
theorem rn_okE (hp : ∀ k, p (p k) = k) (hq : ∀ k, q (q k) = k) {w0 : World} {okA : Nat → Prop} {b : Nat} (h : okE w0 okA E b) : okE w0 okA (E.rn p q) b :=
 ⟨fun k => h.1 (p k), fun k ver z u => h.2.1 (q k) ver z u, h.2.2⟩
theorem HRel.okmono {ok' : Nat → Prop} {b : Nat → Option (List Cel)} {r : Nat → Option Row} (h : HRel w ok base E b r) (hok : ∀ b, ok b → ok' b) : HRel w ok' base E b r := by
 refine ⟨fun k cs hk => ?_, h.bxn, fun k r0 hk => ?_, h.rwn, h.ginj, h.gr, h.rr⟩
 ·obtain ⟨g, cur, ty, h1, h2, h3⟩ := h.bx k cs hk
  exact ⟨g, cur, ty, h1, h2, h3.move (.refl _ w) (fun b _ h => hok b h) (Nat.le_refl _) (.refl E)⟩
 ·obtain ⟨h1, h2, u, vs, h3, h4, h5⟩ := h.rw k r0 hk
  exact ⟨h1, h2, u, vs, h3, h4, h5.move (.refl _ w) (fun b _ h => hok b h) (Nat.le_refl _)⟩
theorem fcms_rn {f : FuncId} {S : List Nat} {H : Hp} {args : List Val} {R : Hp → Val → Prop} (hp : ∀ k, p (p k) = k) (hq : ∀ k, q (q k) = k) (hna : ∀ x ∈ args, ∀ xs, x ≠ .tu xs) (h : FCMS P f S H args R) (hb : H.bs.all (fun x => bldK x.1 == bldK (p x.1)) = true := by rfl) :
  FCMS P f (S.map q) (H.rn p q) (args.map (rnV p q)) (fun H' r' => ∃ H0 r0, R H0 r0 ∧ H' = H0.rn p q ∧ r' = rnV p q r0) := by
 refine ⟨h.1, fun w okA E vs htab hH hno htyb hlen hargs => ?_⟩
 have e1 : ∀ k, tabO (H.rn p q).bs k = (tabO H.bs (p k)).map (fun cs => cs.map (rnC p q)) := fun k => by have := tabO_rn p (fun (cs : List Cel) => cs.map (rnC p q)) hp H.bs k; simpa [Hp.rn] using this
 have e2 : ∀ (G : Hp) k, tabO (G.rn p q).rs k = tabO G.rs (q k) := fun G k => by have := tabO_rn q (fun r : Row => r) hq G.rs k; simpa [Hp.rn] using this
 have inv0 : ∀ c, rnC0 p q (rnC0 p q c) = c := fun c => by cases c <;> simp [rnC0, hp, hq]
 have invC : ∀ c, rnC p q (rnC p q c) = c := fun c => by
  cases c with
  | fn f caps => simp [rnC, Function.comp_def, inv0]
  | mv f caps => simp [rnC, Function.comp_def, inv0]
  | bx k off => exact inv0 (.bx k off)
  | ow k ver => exact inv0 (.ow k ver)
  | op k ver i off => exact inv0 (.op k ver i off)
  | os k ver lo => exact inv0 (.os k ver lo)
  | ws k ver lo hi => exact inv0 (.ws k ver lo hi)
  | mp k => exact inv0 (.mp k)
  | _ => rfl
 have invH : (H.rn p q).rn p q = H := by
  cases H; simp [Hp.rn, hp, hq, Function.comp_def, invC]
 have hH2 := rn_HRel hp hq hH
 rw [invH] at hH2
 have hkb : ∀ {k g}, (E.rn p q).gm k = some g → bldK k = bldK (p k) := fun {k g} hg => by
  have hin : k ∈ H.bs.map (·.1) := by
   apply Classical.byContradiction
   intro hno
   rw [hH2.bxn k (tabO_none hno)] at hg; cases hg
  obtain ⟨x, hx, rfl⟩ := List.mem_map.1 hin
  exact beq_iff_eq.1 (List.all_eq_true.1 hb x hx)
 have hc := h.2 w okA (E.rn p q) vs htab hH2 (fun b hb => hno b ((rn_own hp hq).1 hb)) (fun k g hbk hg => htyb (p k) g (by rw [← hkb hg]; exact hbk) hg) (by simpa using hlen) (fun i x u hx hu => by
  have h1 := hargs i (rnV p q x) u (by simp [hx]) hu
  have h2 := rn_relV hp hq h1
  cases h2' : x with
  | one c => rw [h2'] at h2; simpa [rnV, invC] using h2
  | ag cs => rw [h2'] at h2; simpa [rnV, Function.comp_def, invC] using h2
  | any => exact .any
  | tu xs => exact absurd h2' (hna x (List.mem_of_getElem? hx) xs))
 refine Calls.mono hc ?_
 rintro e w1 ⟨v, H', r, E', rfl, hR, hg, hH', hv, h1, h2, h3, h4, h5, h10, h11⟩
 refine ⟨v, H'.rn p q, rnV p q r, E'.rn p q, rfl, ⟨H', r, hR, rfl, rfl⟩, ⟨hg.os, hg.tape, hg.output, hg.size, fun k hk hn => hg.block k hk (fun hb => hn ((rn_own hp hq).1 hb))⟩, (rn_HRel hp hq hH').okmono (fun b hb => rn_okE hp hq hb),
  (rn_relV hp hq hv).move (.refl _ w1) (fun b _ hb => rn_okE hp hq hb) (Nat.le_refl _) (.refl _), fun k g g' h6 h7 => h1 (p k) g g' (by simpa [Env.rn, hp] using h6) h7, fun k g h6 => (h2 (p k) g h6).imp id (fun h => by simpa [Env.rn, hp] using h), fun k ver z u b h6 h7 => ?_, fun k r0 h6 => h4 (q k) r0 (by rw [← e2]; exact h6), fun k r0 r1 h6 h7 => h5 (q k) r0 r1 (by rw [← e2]; exact h6) (by rw [← e2]; exact h7), fun k ver ver' z z' u u' hk h6 h7 => ?_, fun k g hbk h6 h7 => h11 (p k) g (by rw [hkb (k := p k) (g := g) (by simpa [Env.rn, hp] using h6), hp]; exact hbk) (by simpa [Env.rn, hp] using h6) h7⟩
 rotate_left
 ·obtain ⟨j, hj, rfl⟩ := List.mem_map.1 hk
  exact h10 j ver ver' z z' u u' hj (by simpa [Env.rn] using h6) (by simpa [Env.rn, hq] using h7)
 rcases h3 (q k) ver z u b h6 h7 with h8 | ⟨v', z', u', h8, h9⟩
 ·exact .inl h8
 ·exact .inr ⟨v', z', u', by simpa [Env.rn, hq] using h8, h9⟩
theorem fcm_rn {f : FuncId} {H : Hp} {args : List Val} {R : Hp → Val → Prop} (hp : ∀ k, p (p k) = k) (hq : ∀ k, q (q k) = k) (hna : ∀ x ∈ args, ∀ xs, x ≠ .tu xs) (h : FCM P f H args R) (hb : H.bs.all (fun x => bldK x.1 == bldK (p x.1)) = true := by rfl) :
  FCM P f (H.rn p q) (args.map (rnV p q)) (fun H' r' => ∃ H0 r0, R H0 r0 ∧ H' = H0.rn p q ∧ r' = rnV p q r0) := fcms_rn hp hq hna h hb
end
end Go.Ai

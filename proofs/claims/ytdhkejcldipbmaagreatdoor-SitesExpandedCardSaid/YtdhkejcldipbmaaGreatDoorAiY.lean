/-
 The abstract layer: runs that ask what a generator hands back.
-/
import Derived.Test.YtdhkejcldipbmaaGreatDoorAiX
namespace Go.Ai
open Go
set_option linter.unusedSimpArgs false
set_option linter.unusedVariables false
/-- A run: what it comes to, or what it asks. -/
inductive Rn where
 | leaf (e : AX) (s : AS)
 | bad
 | ask (f : FuncId) (cs : List Cel) (args : List Val) (k : List Cel → Val → Rn)
def wpR (P : Program) : Rn → (AX → AS → Prop) → Prop
 | .leaf e s, Q => Q e s
 | .bad, _ => False
 | .ask f cs args k, Q => ∃ R, FC P f (some cs) args R ∧ (∃ a b, R a b) ∧ ∀ a b, R a b → wpR P (k a b) Q
theorem wpR_mono {P : Program} {Q Q' : AX → AS → Prop} (hQ : ∀ e s, Q e s → Q' e s) : ∀ T, wpR P T Q → wpR P T Q'
 | .leaf e s, h => hQ e s h
 | .bad, h => h
 | .ask f cs args k, h => by
  obtain ⟨R, h1, h2, h3⟩ := h
  exact ⟨R, h1, h2, fun a b hR => wpR_mono hQ (k a b) (h3 a b hR)⟩
/-- The state in which an operation is run that is not passed over. -/
def gdS (s : AS) (i : GI) : Option AS :=
 match i.gd with
 | none => some s
 | some (g, w) => match s.tm g with
  | .one (.g (.bool b)) => if b = w then some (s.fix g b) else none
  | _ => none
theorem gdS_ok {P : Program} {s s' : AS} {i : GI} {T : AS → Prop} (h : gdS s i = some s') (hT : istep P s' i T) : gstep P s i T := by
 unfold gdS at h
 unfold gstep
 split at h
 ·rename_i hg; rw [hg]; cases h; exact hT
 ·rename_i g w hg
  rw [hg]
  simp only []
  split at h
  ·rename_i b hb
   rw [hb]
   split at h
   ·rename_i hw; subst hw
    cases h
    cases b <;> exact hT
   ·cases h
  ·cases h
/-- A call that is asked: the state, the function, the key of the box, what is shown. -/
def askOf (isA : FuncId → Bool) (s : AS) (i : GI) : Option (AS × FuncId × Nat × List Cel × List Val) :=
 match i.ins with
 | .callx f args => (match gdS s i with
  | some s => (match s.ev f, args.map s.ev with
   | .one (.fn g []), .one (.bx k 0) :: rest => if isA g = true then (match s.bx k with
    | some cs => if (!bldK k && (cs.all plainC && rest.all plainV)) = true then some (s, g, k, cs.map s.viewC, rest.map s.view) else none
    | none => none) else none
   | _, _ => none)
  | none => none)
 | _ => none
theorem askOf_ok {P : Program} {isA : FuncId → Bool} {s s' : AS} {i : GI} {g : FuncId} {k : Nat} {cs : List Cel} {args : List Val} {T : AS → Prop} (h : askOf isA s i = some (s', g, k, cs, args))
  (hT : ∃ R, FC P g (some cs) args R ∧ (∃ a b, R a b) ∧ ∀ cs' r, R cs' r → dataRV r = true ∧ cs'.all dataRC = true ∧ T ({ s' with bx := upd s'.bx k (some cs') }.put i.dst r)) : gstep P s i T := by
 unfold askOf at h
 split at h
 ·rename_i f as hi
  split at h
  ·rename_i s1 hs1
   split at h
   ·rename_i g' k' rest hf ha
    split at h
    ·split at h
     ·rename_i cs0 hk
      split at h
      ·rename_i hp
       simp only [Bool.and_eq_true, Bool.not_eq_true'] at hp
       cases h
       refine gdS_ok hs1 ?_
       unfold istep
       rw [hi]
       simp only [callXS]
       rw [ha, hf]
       simp only [callX, hk]
       exact ⟨hp.1, hp.2.1, hp.2.2, hT⟩
      ·cases h
     ·cases h
    ·cases h
   ·cases h
  ·cases h
 ·cases h
def xopsK (isA : FuncId → Bool) (cf : CfT) (cm : CmT) : List GI → AS → (AS → Rn) → Rn
 | [], s, K => K s
 | i :: l, s, K => match askOf isA s i with
  | some (s, g, k, cs, args) => .ask g cs args fun cs' r => if (dataRV r && cs'.all dataRC) = true then xopsK isA cf cm l ({ s with bx := upd s.bx k (some cs') }.put i.dst r) K else .bad
  | none => match xg cf cm s i with
   | some s => xopsK isA cf cm l s K
   | none => .bad
def xlpK (b : AS → (AX → AS → Rn) → Rn) : Nat → AS → (AX → AS → Rn) → Rn
 | 0, _, _ => .bad
 | n + 1, s, K => b s fun e s => match e with
  | .nrm => xlpK b n s K
  | .ret => K .ret s
  | .ex j => K (.ex j) s
def xcK (isA : FuncId → Bool) (cf : CfT) (cm : CmT) (fu : Nat) : AC → AS → (AX → AS → Rn) → Rn
 | .skip, s, K => K .nrm s
 | .reg _ l kp, s, K => xopsK isA cf cm l s fun s => K .nrm (s.keep kp)
 | .seq a b, s, K => xcK isA cf cm fu a s fun e s => match e with
  | .nrm => xcK isA cf cm fu b s K
  | .ret => K .ret s
  | .ex j => K (.ex j) s
 | .cond c a b, s, K => match s.ev c with
  | .one (.g (.bool t)) => match t with
   | true => xcK isA cf cm fu a s K
   | false => xcK isA cf cm fu b s K
  | _ => .bad
 | .block id a, s, K => xcK isA cf cm fu a s fun e s => match e with
  | .nrm => K .nrm s
  | .ret => K .ret s
  | .ex j => if j = id then K .nrm s else K (.ex j) s
 | .loop a, s, K => xlpK (xcK isA cf cm fu a) fu s K
 | .exit id, s, K => K (.ex id) s
 | .ret, s, K => K .ret s
 | .own k E z, s, K => match xown s k E z with
  | some s => K .nrm s
  | none => .bad
 | .ownb k off rk E z, s, K => match xownb s k off rk E z with
  | some s => K .nrm s
  | none => .bad
 | .ty k z, s, K => K .nrm { s with tm := upd s.tm k (tyV z (s.tm k)) }
section
variable {P : Program} {isA : FuncId → Bool} {cf : CfT} {cm : CmT} {fu : Nat} (hcf : CfOk P cf) (hcm : CmOk P cm) {Q : AX → AS → Prop}
include hcf hcm
theorem xopsK_ok : ∀ (l : List GI) (s : AS) (K : AS → Rn), wpR P (xopsK isA cf cm l s K) Q → aops P l (fun s' => wpR P (K s') Q) s
 | [], s, K, h => h
 | i :: l, s, K, h => by
  simp only [xopsK] at h
  split at h
  ·rename_i s1 g k cs args ha
   obtain ⟨R, h1, h2, h3⟩ := h
   refine askOf_ok ha ⟨R, h1, h2, fun cs' r hR => ?_⟩
   have h4 := h3 cs' r hR
   simp only [] at h4
   split at h4
   ·rename_i hc
    simp only [Bool.and_eq_true] at hc
    exact ⟨hc.1, hc.2, xopsK_ok l _ K h4⟩
   ·exact h4.elim
  ·split at h
   ·rename_i s1 h1
    exact xg_ok hcf hcm h1 (xopsK_ok l _ K h)
   ·exact h.elim
theorem xcK_ok : ∀ (c : AC) (s : AS) (K : AX → AS → Rn), wpR P (xcK isA cf cm fu c s K) Q → awp P c (fun e s => wpR P (K e s) Q) s := by
 intro c
 induction c with
 | skip => intro s K h; exact h
 | reg dr l kp => intro s K h; exact xopsK_ok hcf hcm l s _ h
 | seq a b iha ihb =>
  intro s K h
  refine awp_mono a _ _ (fun e s h => ?_) s (iha s _ h)
  cases e with
  | nrm => exact ihb s K h
  | ret => exact h
  | ex j => exact h
 | cond c a b iha ihb =>
  intro s K h
  simp only [xcK] at h
  simp only [awp]
  split at h
  ·rename_i t ht
   rw [ht]
   cases t with
   | true => exact iha s K h
   | false => exact ihb s K h
  ·exact h.elim
 | block id a ih =>
  intro s K h
  refine awp_mono a _ _ (fun e s h => ?_) s (ih s _ h)
  cases e with
  | nrm => exact h
  | ret => exact h
  | ex j =>
   simp only [] at h
   simp only [blkX]
   split at h
   ·rename_i hj; rw [if_pos hj]; exact h
   ·rename_i hj; rw [if_neg hj]; exact h
 | loop a ih =>
  intro s K h
  refine ⟨fun n t => wpR P (xlpK (xcK isA cf cm fu a) n t K) Q, fu, h, fun n t ht => ?_⟩
  cases n with
  | zero => exact ht.elim
  | succ n =>
   refine awp_mono a _ _ (fun e s h => ?_) t (ih t _ ht)
   cases e with
   | nrm => exact ⟨n, Nat.lt_succ_self n, h⟩
   | ret => exact h
   | ex j => exact h
 | exit id => intro s K h; exact h
 | ret => intro s K h; exact h
 | own k E z =>
  intro s K h
  simp only [xcK, xown] at h
  simp only [awp, ownS]
  split at h
  ·rename_i s1 h1
   split at h1
   ·rename_i h2 h3
    simp only [h2, h3]
    split at h1
    ·rename_i hc; cases h1; exact ⟨hc.1, hc.2, h⟩
    ·cases h1
   ·cases h1
  ·exact h.elim
 | ownb k off rk E z =>
  intro s K h
  simp only [xcK, xownb] at h
  simp only [awp, ownB]
  split at h
  ·rename_i s1 h1
   split at h1
   ·rename_i h2 h3
    simp only [h2, h3]
    split at h1
    ·rename_i hc; cases h1; exact ⟨hc.1, hc.2, h⟩
    ·cases h1
   ·cases h1
  ·exact h.elim
 | ty k z => intro s K h; exact h
/-- A function that asks. -/
theorem run_ask {e : Ent P} {xt : Option (List Cel)} {args : List Val} {R : List Cel → Val → Prop} (hn : (if xt.isSome then 1 else 0) + args.length ≤ e.fn.ntmps)
  (h : wpR P (xcK isA cf cm fu e.ac (initSt xt args) .leaf) (fun x s => ∃ cs r, endF e.rs xt (some (x, s)) = some (cs, r) ∧ R cs r)) : FC P e.f xt args R := by
 refine fc_mk e.an e.hf e.hk hn (awp_mono _ _ _ (fun x s h => ?_) _ (xcK_ok hcf hcm _ _ _ h))
 obtain ⟨cs, r, h1, h2⟩ : ∃ cs r, endF e.rs xt (some (x, s)) = some (cs, r) ∧ R cs r := h
 have key : (match s.res e.rs, bx0 s.finC xt (s.bx 0) with | some r, some cs => some (cs, r) | _, _ => none) = some (cs, r) → fpost xt e.rs R .nrm s := fun h => by
  unfold fpost
  cases hr : s.res e.rs with
  | none => rw [hr] at h; cases h
  | some r' =>
   cases xt with
   | none => rw [hr] at h; cases h; simp only [hr]; exact h2
   | some c0 =>
    cases hb : s.bx 0 with
    | none => rw [hr, hb] at h; cases h
    | some c1 => rw [hr, hb] at h; cases h; simp only [hr, hb]; exact h2
 cases x with
 | ex j => cases h1
 | nrm => exact key h1
 | ret => exact key h1
end
end Go.Ai

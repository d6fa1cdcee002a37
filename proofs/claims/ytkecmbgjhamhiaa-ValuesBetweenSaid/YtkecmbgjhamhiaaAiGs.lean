/-
  The abstract layer: one operation with its guard, a region's list of operations.
-/
import Derived.Test.YtkecmbgjhamhiaaAiStep
import Derived.Calls
namespace Go.Ai
open Go

def istep (P : Program) (s : AS) (i : GI) (T : AS → Prop) : Prop :=
  match i.ins with
  | .pick c a b => match s.ev c with
    | .one (.g (.bool t)) => match t with
      | true => T (s.put i.dst (s.ev a))
      | false => T (s.put i.dst (s.ev b))
    | _ => False
  | .call f args => callP P s i.dst (s.ev f) (args.map s.ev) T
  | .callx f args => callXS P s i.dst (s.ev f) (args.map s.ev) T
  | ins => SGood (estep i.dst ins s) T
def AS.fix (s : AS) (g : Nat) (b : Bool) : AS := { s with tm := upd s.tm g (bv b) }
def gstep (P : Program) (s : AS) (i : GI) (T : AS → Prop) : Prop :=
  match i.gd with
  | none => istep P s i T
  | some (g, want) => match s.tm g with
    | .one (.g (.bool b)) => match b with
      | true => match want with
        | true => istep P (s.fix g true) i T
        | false => T ((s.fix g true).put i.dst .any)
      | false => match want with
        | true => T ((s.fix g false).put i.dst .any)
        | false => istep P (s.fix g false) i T
    | _ => False
def aops (P : Program) : List GI → (AS → Prop) → AS → Prop
  | [], T, s => T s
  | i :: l, T, s => gstep P s i (aops P l T)

def compileGI (P : Program) (N : Nat) (ops : Array Oper) (o : Oper) : Option GI :=
  match compileIns P o, (match o.dst with | some d => decide (d < N) | none => true), (match o.guard with | none => some none | some (j, want) => ((ops[j]?).bind (·.dst)).map fun g => some (g, want)) with
  | some i, true, some gd => some ⟨o.dst, gd, i⟩
  | _, _, _ => none

section
variable {P : Program} {w0 w w' : World} {okA : Nat → Prop} {ext : Option Nat} {N : Nat} {s : AS} {a : Act} {E : Env} {o : Oper} {K : Act → World → Prop} {Q : Exit → Act → World → Prop}

theorem pick_sound (h : St w0 okA ext N s a w E) {gd : Option (Nat × Bool)} {c x y : Operand} {c' x' y' : Opd} (hc : opd c = some c') (hx : opd x = some x') (hy : opd y = some y') (ho : o.op = .pick c x y) (hd : ∀ k, o.dst = some k → k < N)
    (hK : istep P s ⟨o.dst, gd, .pick c' x' y'⟩ (Serves w0 okA ext N K)) : o.wp P a w K Q := by
  simp only [istep] at hK
  have hr := ev_rel h hc
  split at hK
  · rename_i t hv
    have e1 := one_g hr hv
    cases t with
    | true =>
      refine wp_value (v := a.eval x) (w' := w) ?_ (hK _ _ E (h.put (ev_rel h hx) hd))
      simp [execOp, ho, e1, asBool]
    | false =>
      refine wp_value (v := a.eval y) (w' := w) ?_ (hK _ _ E (h.put (ev_rel h hy) hd))
      simp [execOp, ho, e1, asBool]
  · exact hK.elim

theorem istep_sound (h : St w0 okA ext N s a w E) {gd : Option (Nat × Bool)} {i : Ins} (hc : compileIns P o = some i) (hd : ∀ k, o.dst = some k → k < N) (hK : istep P s ⟨o.dst, gd, i⟩ (Serves w0 okA ext N K)) : o.wp P a w K Q := by
  by_cases hn : callsOut i = false
  · refine ins_sound h hc hn hd ?_
    cases i <;> first | exact hK | (simp [callsOut] at hn)
  · cases i <;> simp [callsOut] at hn
    · unfold compileIns at hc
      split at hc
      case h_3 c x y ho =>
        split at hc
        · rename_i c' x' y' h1 h2 h3; simp only [Option.some.injEq, Ins.pick.injEq] at hc; obtain ⟨rfl, rfl, rfl⟩ := hc
          exact pick_sound h h1 h2 h3 ho hd hK
        · cases hc
      all_goals (exfalso; revert hc; first | (simp; done) | (simp only [Option.map_eq_some_iff]; rintro ⟨_, _, h⟩; cases h) | (repeat' split) <;> (first | (simp; done) | (simp only [Option.map_eq_some_iff]; rintro ⟨_, _, h⟩; cases h)))
    · unfold compileIns at hc
      split at hc
      case h_25 fo args ts ho =>
        split at hc
        · rename_i f' as' h1 h2; simp only [Option.some.injEq] at hc
          split at hc
          · cases hc
          · simp only [Ins.call.injEq] at hc; obtain ⟨rfl, rfl⟩ := hc
            exact callp_sound h ho h1 h2 hd hK
        · cases hc
      all_goals (exfalso; revert hc; first | (simp; done) | (simp only [Option.map_eq_some_iff]; rintro ⟨_, _, h⟩; cases h) | (repeat' split) <;> (first | (simp; done) | (simp only [Option.map_eq_some_iff]; rintro ⟨_, _, h⟩; cases h)))
    · unfold compileIns at hc
      split at hc
      case h_25 fo args ts ho =>
        split at hc
        · rename_i f' as' h1 h2; simp only [Option.some.injEq] at hc
          split at hc
          · simp only [Ins.callx.injEq] at hc; obtain ⟨rfl, rfl⟩ := hc
            exact callx_sound h ho h1 h2 hd hK
          · cases hc
        · cases hc
      all_goals (exfalso; revert hc; first | (simp; done) | (simp only [Option.map_eq_some_iff]; rintro ⟨_, _, h⟩; cases h) | (repeat' split) <;> (first | (simp; done) | (simp only [Option.map_eq_some_iff]; rintro ⟨_, _, h⟩; cases h)))

theorem fix_st (h : St w0 okA ext N s a w E) {g : Nat} {b : Bool} (hg : s.tm g = .one (.g (.bool b))) : St w0 okA ext N (s.fix g b) a w E := by
  refine { h with tm := fun t => ?_, bx := h.bx, rw := h.rw }
  simp only [AS.fix]
  by_cases e : t = g
  · subst e; rw [upd_same]; have := h.tm t; rw [hg] at this; exact this
  · rw [upd_ne _ _ e]; exact h.tm t

theorem gstep_sound (h : St w0 okA ext N s a w E) {ops : Array Oper} {gi : GI} (hc : compileGI P N ops o = some gi) (hK : gstep P s gi (Serves w0 okA ext N K)) :
    if Region.wanted o (yielded ops a.tmps) = true then o.wp P a w K Q else K (a.put o.dst undef) w := by
  unfold compileGI at hc
  split at hc
  · rename_i i gd hi hdst hgd
    simp only [Option.some.injEq] at hc; subst hc
    have hd : ∀ k, o.dst = some k → k < N := fun k hk => by rw [hk] at hdst; simpa using hdst
    unfold gstep at hK
    split at hgd
    · rename_i hgn
      simp only [Option.some.injEq] at hgd; subst hgd
      have hw : Region.wanted o (yielded ops a.tmps) = true := by simp [Region.wanted, hgn]
      rw [if_pos hw]
      exact istep_sound h hi hd hK
    · rename_i j want hgn
      simp only [Option.map_eq_some_iff] at hgd
      obtain ⟨g, hg, rfl⟩ := hgd
      simp only [] at hK
      split at hK
      · rename_i b hb
        have hv := one_g (h.tm g) hb
        have hlt : a.tmps[g]? = some (.bool b) := by
          rw [Array.getD_eq_getD_getElem?] at hv
          cases hx : a.tmps[g]? with
          | none => rw [hx] at hv; cases hv
          | some v => rw [hx] at hv; simp at hv; rw [hv]
        have hy : yielded ops a.tmps j = some b := by simp [yielded, hg, hlt]
        have hw : Region.wanted o (yielded ops a.tmps) = (b == want) := by simp [Region.wanted, hgn, hy]
        rw [hw]
        have h2 := fix_st h hb
        cases b <;> cases want <;> simp only [] at hK <;> simp only [beq_self_eq_true, if_true, Bool.false_eq_true, if_false, show (false == true) = false from rfl, show (true == false) = false from rfl]
        · exact istep_sound h2 hi hd hK
        · exact hK _ _ E (h2.put .any hd)
        · exact hK _ _ E (h2.put .any hd)
        · exact istep_sound h2 hi hd hK
      · exact hK.elim
  · cases hc

theorem istep_mono {i : GI} {T T' : AS → Prop} (hT : ∀ s, T s → T' s) (h : istep P s i T) : istep P s i T' := by
  unfold istep at *
  split at h
  · split at h
    · split at h <;> exact hT _ h
    · exact h
  · unfold callP at *
    split at h
    · obtain ⟨R, h3, hne, h4⟩ := h; exact ⟨R, h3, hne, fun cs r hr => ⟨(h4 cs r hr).1, hT _ (h4 cs r hr).2⟩⟩
    · exact h
  · unfold callXS callX at *
    split at h
    · split at h
      · obtain ⟨h1, h2, R, h3, hne, h4⟩ := h; exact ⟨h1, h2, R, h3, hne, fun cs r hr => ⟨(h4 cs r hr).1, (h4 cs r hr).2.1, hT _ (h4 cs r hr).2.2⟩⟩
      · exact h
    · exact h
  · generalize estep i.dst _ s = r at *
    cases r with
    | ok s => exact hT _ h
    | need p s => exact ⟨h.1, hT _ h.2⟩
    | bad => exact h

theorem gstep_mono {i : GI} {T T' : AS → Prop} (hT : ∀ s, T s → T' s) (h : gstep P s i T) : gstep P s i T' := by
  unfold gstep at *
  split at h
  · exact istep_mono hT h
  · split at h
    · split at h <;> split at h <;> first | exact istep_mono hT h | exact hT _ h
    · exact h

theorem aops_sound {ops : Array Oper} : ∀ (l : List Oper) (gs : List GI), l.mapM (compileGI P N ops) = some gs → ∀ (s : AS) (a : Act) (w : World) (E : Env), St w0 okA ext N s a w E →
    aops P gs (fun s' => ∀ a' w' E', St w0 okA ext N s' a' w' E' → Q .normal a' w') s → wpList P ops Q l a w
  | [], gs, hc, s, a, w, E, h, hK => by
    simp at hc; subst hc; exact hK a w E h
  | o :: l, gs, hc, s, a, w, E, h, hK => by
    simp only [List.mapM_cons, Option.bind_eq_bind, Option.bind_eq_some_iff, Option.pure_def, Option.some.injEq] at hc
    obtain ⟨g, hg, gs', hgs, rfl⟩ := hc
    have h1 := gstep_sound (K := wpList P ops Q l) (Q := Q) h hg (gstep_mono (fun s' hs' a' w' E' hst => aops_sound l gs' hgs s' a' w' E' hst hs') hK)
    simp only [wpList]
    split
    · rename_i hw; rw [if_pos hw] at h1; exact .inl h1
    · rename_i hw; rw [if_neg hw] at h1; exact h1
end
end Go.Ai

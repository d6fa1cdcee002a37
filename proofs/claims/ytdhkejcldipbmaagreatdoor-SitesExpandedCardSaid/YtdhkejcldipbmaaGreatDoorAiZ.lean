/-
 The abstract layer: runs whose calls are answered on trust; what was told is kept, to be shown apart.
-/
import Derived.Test.YtdhkejcldipbmaaGreatDoorAiX
namespace Go.Ai
open Go
set_option linter.unusedSimpArgs false
set_option linter.unusedVariables false
abbrev Lg := List (FuncId × List Val × Val)
def LgOk (P : Program) : Lg → Prop
 | [] => True
 | x :: l => FC P x.1 none x.2.1 (fun _ y => y = x.2.2) ∧ LgOk P l
theorem lg_app {P : Program} : ∀ {a b : Lg}, LgOk P (a ++ b) → LgOk P a ∧ LgOk P b
 | [], b, h => ⟨trivial, h⟩
 | x :: a, b, h => ⟨⟨h.1, (lg_app h.2).1⟩, (lg_app h.2).2⟩
/-- What is answered on trust, in the order of the calls. -/
abbrev TrT := List (FuncId × Val)
def trOf (T : TrT) (s : AS) (i : GI) : Option (FuncId × List Val × Val) :=
 match i.gd, i.ins, T with
 | none, .call f args, (g0, r) :: _ => (match calleeV (s.ev f) (args.map s.ev) with
  | some (g, as) => if g = g0 then (if (freshV r || (dataRV r && as.all plainV)) = true then some (g, as.map s.view, r) else none) else none
  | none => none)
 | _, _, _ => none
theorem trOf_ok {P : Program} {T : TrT} {s : AS} {i : GI} {x : FuncId × List Val × Val} {Q : AS → Prop} (h : trOf T s i = some x) (hx : FC P x.1 none x.2.1 (fun _ y => y = x.2.2)) (hQ : Q (s.put i.dst x.2.2)) : gstep P s i Q := by
 obtain ⟨d, gd, ins⟩ := i
 unfold trOf at h
 simp only at h
 split at h
 ·rename_i f args g0 r tl
  split at h
  ·rename_i g as he
   split at h
   ·split at h
    ·rename_i hc
     cases h
     simp only [gstep, istep, callP]
     rw [he]
     refine ⟨_, hx, ⟨[], _, rfl⟩, ?_⟩
     rintro _ _ rfl
     exact ⟨by simpa using hc, hQ⟩
    ·cases h
   ·cases h
  ·cases h
 ·cases h
def xopsW (cf : CfT) (cm : CmT) : List GI → TrT → AS → Option (AS × Lg × TrT)
 | [], T, s => some (s, [], T)
 | i :: l, T, s => match trOf T s i with
  | some x => (match xopsW cf cm l T.tail (s.put i.dst x.2.2) with
   | some (s', lg, T) => some (s', x :: lg, T)
   | none => none)
  | none => (match xg cf cm s i with
   | some s => xopsW cf cm l T s
   | none => none)
def xlpW (b : TrT → AS → Option (AX × AS × Lg × TrT)) : Nat → TrT → AS → Option (AX × AS × Lg × TrT)
 | 0, _, _ => none
 | n + 1, T, s => match b T s with
  | some (.nrm, s, lg, T) => (match xlpW b n T s with
   | some (e, s, lg', T) => some (e, s, lg ++ lg', T)
   | none => none)
  | r => r
def xcW (cf : CfT) (cm : CmT) (fu : Nat) : AC → TrT → AS → Option (AX × AS × Lg × TrT)
 | .skip, T, s => some (.nrm, s, [], T)
 | .reg _ l kp, T, s => match xopsW cf cm l T s with
  | some (s, lg, T) => some (.nrm, s.keep kp, lg, T)
  | none => none
 | .seq a b, T, s => match xcW cf cm fu a T s with
  | some (.nrm, s, lg, T) => (match xcW cf cm fu b T s with
   | some (e, s, lg', T) => some (e, s, lg ++ lg', T)
   | none => none)
  | r => r
 | .cond c a b, T, s => match s.ev c with
  | .one (.g (.bool t)) => match t with
   | true => xcW cf cm fu a T s
   | false => xcW cf cm fu b T s
  | _ => none
 | .block id a, T, s => match xcW cf cm fu a T s with
  | some (.ex j, s, lg, T) => if j = id then some (.nrm, s, lg, T) else some (.ex j, s, lg, T)
  | r => r
 | .loop a, T, s => xlpW (xcW cf cm fu a) fu T s
 | .exit id, T, s => some (.ex id, s, [], T)
 | .ret, T, s => some (.ret, s, [], T)
 | .own k E z, T, s => (xown s k E z).map fun s => (.nrm, s, [], T)
 | .ownb k off rk E z, T, s => (xownb s k off rk E z).map fun s => (.nrm, s, [], T)
 | .ty k z, T, s => some (.nrm, { s with tm := upd s.tm k (tyV z (s.tm k)) }, [], T)
section
variable {P : Program} {cf : CfT} {cm : CmT} (hcf : CfOk P cf) (hcm : CmOk P cm)
include hcf hcm
theorem xopsW_ok : ∀ {l : List GI} {T T' : TrT} {s s' : AS} {lg : Lg} {Q : AS → Prop}, xopsW cf cm l T s = some (s', lg, T') → LgOk P lg → Q s' → aops P l Q s
 | [], T, T', s, s', lg, Q, h, _, hQ => by cases h; exact hQ
 | i :: l, T, T', s, s', lg, Q, h, hl, hQ => by
  simp only [xopsW] at h
  split at h
  ·rename_i x hx
   split at h
   ·rename_i s1 lg1 T1 h1
    cases h
    exact trOf_ok hx hl.1 (xopsW_ok h1 hl.2 hQ)
   ·cases h
  ·split at h
   ·rename_i s1 h1
    exact xg_ok hcf hcm h1 (xopsW_ok h hl hQ)
   ·cases h
omit hcf hcm in
theorem xlpW_ok {a : AC} {b : TrT → AS → Option (AX × AS × Lg × TrT)} (hb : ∀ T s e s' lg T', b T s = some (e, s', lg, T') → LgOk P lg → ∀ Q : AX → AS → Prop, Q e s' → awp P a Q s) : ∀ (n : Nat) (T : TrT) (s : AS) (e : AX) (s' : AS) (lg : Lg) (T' : TrT), xlpW b n T s = some (e, s', lg, T') → LgOk P lg → ∀ Q : AX → AS → Prop, Q e s' → awp P (.loop a) Q s
 | 0, T, s, e, s', lg, T', h, hl, Q, hQ => by cases h
 | n + 1, T, s, e, s', lg, T', h, hl, Q, hQ => by
  simp only [xlpW] at h
  split at h
  ·rename_i s1 lg1 T1 h1
   split at h
   ·rename_i e2 s2 lg2 T2 h2
    cases h
    obtain ⟨hl1, hl2⟩ := lg_app hl
    obtain ⟨I, m, hI, hs⟩ := xlpW_ok hb n T1 s1 _ _ _ _ h2 hl2 Q hQ
    refine ⟨fun k t => (k = m + 1 ∧ t = s) ∨ (k ≤ m ∧ I k t), m + 1, .inl ⟨rfl, rfl⟩, ?_⟩
    rintro k t (⟨rfl, rfl⟩ | ⟨hk, ht⟩)
    ·exact hb _ _ _ _ _ _ h1 hl1 _ ⟨m, Nat.lt_succ_self _, .inr ⟨Nat.le_refl _, hI⟩⟩
    ·refine awp_mono a _ _ (fun e s h => ?_) _ (hs k t ht)
     cases e with
     | nrm => obtain ⟨j, hj, hi⟩ := h; exact ⟨j, hj, .inr ⟨by omega, hi⟩⟩
     | ret => exact h
     | ex => exact h
   ·cases h
  ·rename_i hne
   refine ⟨fun k t => t = s, 0, rfl, ?_⟩
   rintro k t rfl
   refine hb _ _ _ _ _ _ h hl _ ?_
   cases e with
   | nrm => exact absurd h (hne _ _ _)
   | ret => exact hQ
   | ex => exact hQ
theorem xcW_ok (fu : Nat) : ∀ (c : AC) (T : TrT) (s : AS) (e : AX) (s' : AS) (lg : Lg) (T' : TrT), xcW cf cm fu c T s = some (e, s', lg, T') → LgOk P lg → ∀ Q : AX → AS → Prop, Q e s' → awp P c Q s := by
 intro c
 induction c with
 | skip => intro T s e s' lg T' h hl Q hQ; cases h; exact hQ
 | reg dr l kp =>
  intro T s e s' lg T' h hl Q hQ
  simp only [xcW] at h
  split at h
  ·rename_i s1 lg1 T1 h1
   cases h
   exact xopsW_ok hcf hcm h1 hl hQ
  ·cases h
 | seq a b iha ihb =>
  intro T s e s' lg T' h hl Q hQ
  simp only [xcW] at h
  split at h
  ·rename_i s1 lg1 T1 h1
   split at h
   ·rename_i e2 s2 lg2 T2 h2
    cases h
    obtain ⟨hl1, hl2⟩ := lg_app hl
    exact iha _ _ _ _ _ _ h1 hl1 _ (ihb _ _ _ _ _ _ h2 hl2 Q hQ)
   ·cases h
  ·rename_i hne
   refine iha _ _ _ _ _ _ h hl _ ?_
   cases e with
   | nrm => exact absurd h (hne _ _ _)
   | ret => exact hQ
   | ex => exact hQ
 | cond c a b iha ihb =>
  intro T s e s' lg T' h hl Q hQ
  simp only [xcW] at h
  simp only [awp]
  split at h
  ·rename_i t ht
   rw [ht]
   cases t with
   | true => exact iha _ _ _ _ _ _ h hl Q hQ
   | false => exact ihb _ _ _ _ _ _ h hl Q hQ
  ·cases h
 | block id a ih =>
  intro T s e s' lg T' h hl Q hQ
  simp only [xcW] at h
  simp only [awp]
  split at h
  ·rename_i j s1 lg1 T1 h1
   split at h
   ·rename_i hj
    cases h
    refine ih _ _ _ _ _ _ h1 hl _ ?_
    simp only [blkX]; rw [if_pos hj]; exact hQ
   ·rename_i hj
    cases h
    refine ih _ _ _ _ _ _ h1 hl _ ?_
    simp only [blkX]; rw [if_neg hj]; exact hQ
  ·rename_i hne
   refine ih _ _ _ _ _ _ h hl _ ?_
   cases e with
   | nrm => exact hQ
   | ret => exact hQ
   | ex j => exact absurd h (hne _ _ _ _)
 | loop a ih => intro T s e s' lg T' h hl Q hQ; exact xlpW_ok ih fu T s e s' lg T' h hl Q hQ
 | exit id => intro T s e s' lg T' h hl Q hQ; cases h; exact hQ
 | ret => intro T s e s' lg T' h hl Q hQ; cases h; exact hQ
 | own k E z =>
  intro T s e s' lg T' h hl Q hQ
  simp only [xcW, xown] at h
  simp only [awp, ownS]
  split at h
  ·rename_i h1 h2
   simp only [h1, h2]
   split at h
   ·rename_i hc; cases h; exact ⟨hc.1, hc.2, hQ⟩
   ·cases h
  ·cases h
 | ownb k off rk E z =>
  intro T s e s' lg T' h hl Q hQ
  simp only [xcW, xownb] at h
  simp only [awp, ownB]
  split at h
  ·rename_i h1 h2
   simp only [h1, h2]
   split at h
   ·rename_i hc; cases h; exact ⟨hc.1, hc.2, hQ⟩
   ·cases h
  ·cases h
 | ty k z => intro T s e s' lg T' h hl Q hQ; cases h; exact hQ
def endW (rs : List RV) : Option (AX × AS × Lg × TrT) → Option (Val × Lg)
 | none => none
 | some (e, s, lg, _) => match endF rs none (some (e, s)) with
  | some (_, r) => some (r, lg)
  | none => none
/-- A run with answers on trust. -/
theorem run_tr {T : TrT} {fu : Nat} {e : Ent P} {args : List Val} {r : Val} {lg : Lg} (hn : args.length ≤ e.fn.ntmps) (h : endW e.rs (xcW cf cm fu e.ac T (initSt none args)) = some (r, lg)) (hl : LgOk P lg) : FC P e.f none args (fun _ y => y = r) := by
 cases hx : xcW cf cm fu e.ac T (initSt none args) with
 | none => rw [hx] at h; cases h
 | some y =>
  obtain ⟨x, s, lg1, T1⟩ := y
  rw [hx] at h
  simp only [endW] at h
  split at h
  ·rename_i cs r1 h1
   cases h
   refine fc_mk e.an e.hf e.hk (by simpa using hn) (xcW_ok hcf hcm fu _ _ _ _ _ _ _ hx hl _ ?_)
   have key : (match s.res e.rs, bx0 s.finC none (s.bx 0) with | some r, some cs => some (cs, r) | _, _ => none) = some (cs, r) → fpost none e.rs (fun _ y => y = r) .nrm s := fun h => by
    unfold fpost
    cases hr : s.res e.rs with
    | none => rw [hr] at h; cases h
    | some r' => rw [hr] at h; cases h; simp only [hr]
   cases x with
   | ex j => cases h1
   | nrm => exact key h1
   | ret => exact key h1
  ·cases h
end
end Go.Ai

/-
 The abstract layer: code is run by reckoning, where what it looks at is known.
-/
import Derived.Test.YtdhkejcldipbmaaGreatDoorAiE
namespace Go.Ai
open Go
set_option linter.unusedSimpArgs false
set_option linter.unusedVariables false
def SRes.get : SRes → Option AS
 | .ok s => some s
 | @SRes.need p _ s => if p then some s else none
 | .bad => none
theorem get_good {r : SRes} {s : AS} {T : AS → Prop} (h : r.get = some s) (hT : T s) : SGood r T := by
 cases r with
 | ok s' => cases h; exact hT
 | need p s' =>
  simp only [SRes.get] at h
  split at h
  ·cases h; exact ⟨by assumption, hT⟩
  ·cases h
 | bad => cases h
/-- Who answers calls: of functions that only read (or are handed one box), and of those that are handed boxes and rows. -/
abbrev CfT := FuncId → Option (List Cel) → List Val → Option (List Cel × Val)
abbrev CmT := FuncId → CAnn → Hp → List Val → Option (Hp × Val)
def CfOk (P : Program) (cf : CfT) : Prop := ∀ f xt args cs r, cf f xt args = some (cs, r) → FC P f xt args (fun x y => x = cs ∧ y = r)
def CmOk (P : Program) (cm : CmT) : Prop := ∀ f m H args X r, cm f m H args = some (X, r) → FCMS P f m.sts H args (fun x y => x = X ∧ y = r)
def xcall (cf : CfT) (s : AS) (d : Option Nat) : Option (FuncId × List Val) → Option AS
 | some (g, as) => match cf g none (as.map s.view) with
  | some (_, r) => if (freshV r || (dataRV r && as.all plainV)) = true then some (s.put d r) else none
  | none => none
 | none => none
def xcallx (cf : CfT) (s : AS) (d : Option Nat) : Val → List Val → Option AS
 | .one (.fn g []), .one (.bx k 0) :: rest => match s.bx k with
  | some cs => if (!bldK k && (cs.all plainC && rest.all plainV)) = true then (match cf g (some (cs.map s.viewC)) (rest.map s.view) with
   | some (cs', r) => if (dataRV r && cs'.all dataRC) = true then some ({ s with bx := upd s.bx k (some cs') }.put d r) else none
   | none => none) else none
  | none => none
 | _, _ => none
def xcallm (cm : CmT) (s : AS) (d : Option Nat) (m : CAnn) : Option (FuncId × List Val) → Option AS
 | some (g, as) => if okM s m = true then (match cm g m (s.hp m) (as.map (s.passV m)) with
  | some (H, r) => if hkB m H = true then some ((s.after m H).put d (s.backV m r)) else none
  | none => none) else none
 | none => none
def xi (cf : CfT) (cm : CmT) (s : AS) (i : GI) : Option AS :=
 match i.ins with
 | .pick c a b => match s.ev c with
  | .one (.g (.bool t)) => match t with
   | true => some (s.put i.dst (s.ev a))
   | false => some (s.put i.dst (s.ev b))
  | _ => none
 | .call f args => xcall cf s i.dst (calleeV (s.ev f) (args.map s.ev))
 | .callx f args => xcallx cf s i.dst (s.ev f) (args.map s.ev)
 | .callm f args m => xcallm cm s i.dst m (calleeV (s.ev f) (args.map s.ev))
 | ins => (estep i.dst ins s).get
def xg (cf : CfT) (cm : CmT) (s : AS) (i : GI) : Option AS :=
 match i.gd with
 | none => xi cf cm s i
 | some (g, want) => match s.tm g with
  | .one (.g (.bool b)) => match b with
   | true => match want with
    | true => xi cf cm (s.fix g true) i
    | false => some ((s.fix g true).put i.dst (.tu []))
   | false => match want with
    | true => some ((s.fix g false).put i.dst (.tu []))
    | false => xi cf cm (s.fix g false) i
  | .tu [] => some (s.put i.dst (.tu []))
  | _ => none
def xops (cf : CfT) (cm : CmT) : List GI → AS → Option AS
 | [], s => some s
 | i :: l, s => match xg cf cm s i with
  | some s => xops cf cm l s
  | none => none
def xown (s : AS) (k : Nat) (E : TypeId) (z : Nat) : Option AS :=
 match s.tm k, s.rw k with
 | .one (.g (.slice none 0 c)), none => if c = 0 ∧ 0 < z then some { s with tm := upd s.tm k (.one (.ow k 0)), rw := upd s.rw k (some ⟨0, E, z, []⟩) } else none
 | _, _ => none
def xownb (s : AS) (k off rk : Nat) (E : TypeId) (z : Nat) : Option AS :=
 match s.bx k, s.rw rk with
 | some cs, none => if (cs[off]?.map nilC = some true ∧ rk < XK) ∧ 0 < z then some { s with bx := upd s.bx k (some (wr cs off [.ow rk 0])), rw := upd s.rw rk (some ⟨0, E, z, []⟩) } else none
 | _, _ => none
def xlp (b : AS → Option (AX × AS)) : Nat → AS → Option (AX × AS)
 | 0, _ => none
 | n + 1, s => match b s with
  | some (.nrm, s) => xlp b n s
  | r => r
def xc (cf : CfT) (cm : CmT) (fu : Nat) : AC → AS → Option (AX × AS)
 | .skip, s => some (.nrm, s)
 | .reg _ l kp, s => match xops cf cm l s with
  | some s => some (.nrm, s.keep kp)
  | none => none
 | .seq a b, s => match xc cf cm fu a s with
  | some (.nrm, s) => xc cf cm fu b s
  | r => r
 | .cond c a b, s => match s.ev c with
  | .one (.g (.bool t)) => match t with
   | true => xc cf cm fu a s
   | false => xc cf cm fu b s
  | _ => none
 | .block id a, s => match xc cf cm fu a s with
  | some (.ex j, s) => if j = id then some (.nrm, s) else some (.ex j, s)
  | r => r
 | .loop a, s => xlp (xc cf cm fu a) fu s
 | .exit id, s => some (.ex id, s)
 | .ret, s => some (.ret, s)
 | .own k E z, s => (xown s k E z).map fun s => (.nrm, s)
 | .ownb k off rk E z, s => (xownb s k off rk E z).map fun s => (.nrm, s)
 | .ty k z, s => some (.nrm, { s with tm := upd s.tm k (tyV z (s.tm k)) })
section
variable {P : Program} {cf : CfT} {cm : CmT} (hcf : CfOk P cf) (hcm : CmOk P cm)
include hcf hcm
theorem xi_ok {s s' : AS} {i : GI} {T : AS → Prop} (h : xi cf cm s i = some s') (hT : T s') : istep P s i T := by
 obtain ⟨d, gd, ins⟩ := i
 cases ins with
 | pick c a b =>
  simp only [xi] at h
  simp only [istep]
  split at h
  ·rename_i t ht
   rw [ht]
   cases t <;> (cases h; exact hT)
  ·cases h
 | call f args =>
  simp only [xi] at h
  simp only [istep, callP]
  unfold xcall at h
  split at h
  ·rename_i g as he
   rw [he]
   split at h
   ·rename_i cs r hr
    split at h
    ·rename_i hc
     cases h
     refine ⟨_, hcf _ _ _ _ _ hr, ⟨_, _, rfl, rfl⟩, ?_⟩
     rintro _ _ ⟨rfl, rfl⟩
     exact ⟨by simpa using hc, hT⟩
    ·cases h
   ·cases h
  ·cases h
 | callx f args =>
  simp only [xi] at h
  simp only [istep, callXS]
  unfold xcallx at h
  split at h
  ·rename_i g k rest hf ha
   rw [ha, hf]
   simp only [callX]
   split at h
   ·rename_i cs hk
    simp only [hk]
    split at h
    ·rename_i hp
     simp only [Bool.and_eq_true, Bool.not_eq_true'] at hp
     split at h
     ·rename_i cs' r hr
      split at h
      ·rename_i hc
       simp only [Bool.and_eq_true] at hc
       cases h
       refine ⟨hp.1, hp.2.1, hp.2.2, _, hcf _ _ _ _ _ hr, ⟨_, _, rfl, rfl⟩, ?_⟩
       rintro _ _ ⟨rfl, rfl⟩
       exact ⟨hc.1, hc.2, hT⟩
      ·cases h
     ·cases h
    ·cases h
   ·cases h
  ·cases h
 | callm f args m =>
  simp only [xi] at h
  simp only [istep, callM]
  unfold xcallm at h
  split at h
  ·rename_i g as he
   rw [he]
   split at h
   ·rename_i ho
    split at h
    ·rename_i H r hr
     split at h
     ·rename_i hc
      cases h
      refine ⟨ho, _, hcm _ _ _ _ _ _ hr, ⟨_, _, rfl, rfl⟩, ?_⟩
      rintro _ _ ⟨rfl, rfl⟩
      exact ⟨.inr hc, hT⟩
     ·cases h
    ·cases h
   ·cases h
  ·cases h
 | _ => simp only [xi] at h; exact get_good h hT
theorem xg_ok {s s' : AS} {i : GI} {T : AS → Prop} (h : xg cf cm s i = some s') (hT : T s') : gstep P s i T := by
 obtain ⟨d, gd, ins⟩ := i
 cases gd with
 | none => exact xi_ok hcf hcm h hT
 | some g =>
  obtain ⟨g, want⟩ := g
  simp only [xg] at h
  simp only [gstep]
  split at h
  ·rename_i b hb
   rw [hb]
   cases b <;> cases want <;> first | exact xi_ok hcf hcm h hT | (cases h; exact hT)
  ·rename_i hb
   rw [hb]
   cases h; exact hT
  ·cases h
theorem xops_ok : ∀ {l : List GI} {s s' : AS} {T : AS → Prop}, xops cf cm l s = some s' → T s' → aops P l T s
 | [], s, s', T, h, hT => by cases h; exact hT
 | i :: l, s, s', T, h, hT => by
  simp only [xops] at h
  split at h
  ·rename_i s1 h1
   exact xg_ok hcf hcm h1 (xops_ok h hT)
  ·cases h
omit hcf hcm in
theorem xlp_ok {a : AC} {b : AS → Option (AX × AS)} (hb : ∀ s e s', b s = some (e, s') → ∀ Q : AX → AS → Prop, Q e s' → awp P a Q s) : ∀ (n : Nat) (s : AS) (e : AX) (s' : AS), xlp b n s = some (e, s') → ∀ Q : AX → AS → Prop, Q e s' → awp P (.loop a) Q s
 | 0, s, e, s', h, Q, hQ => by cases h
 | n + 1, s, e, s', h, Q, hQ => by
  simp only [xlp] at h
  split at h
  ·rename_i s1 h1
   obtain ⟨I, m, hI, hs⟩ := xlp_ok hb n s1 e s' h Q hQ
   refine ⟨fun k t => (k = m + 1 ∧ t = s) ∨ (k ≤ m ∧ I k t), m + 1, .inl ⟨rfl, rfl⟩, ?_⟩
   rintro k t (⟨rfl, rfl⟩ | ⟨hk, ht⟩)
   ·exact hb _ _ _ h1 _ ⟨m, Nat.lt_succ_self _, .inr ⟨Nat.le_refl _, hI⟩⟩
   ·refine awp_mono a _ _ (fun e s h => ?_) _ (hs k t ht)
    cases e with
    | nrm => obtain ⟨j, hj, hi⟩ := h; exact ⟨j, hj, .inr ⟨by omega, hi⟩⟩
    | ret => exact h
    | ex => exact h
  ·rename_i hne
   refine ⟨fun k t => t = s, 0, rfl, ?_⟩
   rintro k t rfl
   refine hb _ _ _ h _ ?_
   cases e with
   | nrm => exact absurd h (hne _)
   | ret => exact hQ
   | ex => exact hQ
theorem xc_ok (fu : Nat) : ∀ (c : AC) (s : AS) (e : AX) (s' : AS), xc cf cm fu c s = some (e, s') → ∀ Q : AX → AS → Prop, Q e s' → awp P c Q s := by
 intro c
 induction c with
 | skip => intro s e s' h Q hQ; cases h; exact hQ
 | reg dr l kp =>
  intro s e s' h Q hQ
  simp only [xc] at h
  split at h
  ·rename_i s1 h1
   cases h
   exact xops_ok hcf hcm h1 hQ
  ·cases h
 | seq a b iha ihb =>
  intro s e s' h Q hQ
  simp only [xc] at h
  split at h
  ·rename_i s1 h1
   exact iha _ _ _ h1 _ (ihb _ _ _ h Q hQ)
  ·rename_i hne
   refine iha _ _ _ h _ ?_
   cases e with
   | nrm => exact absurd h (hne _)
   | ret => exact hQ
   | ex => exact hQ
 | cond c a b iha ihb =>
  intro s e s' h Q hQ
  simp only [xc] at h
  simp only [awp]
  split at h
  ·rename_i t ht
   rw [ht]
   cases t with
   | true => exact iha _ _ _ h Q hQ
   | false => exact ihb _ _ _ h Q hQ
  ·cases h
 | block id a ih =>
  intro s e s' h Q hQ
  simp only [xc] at h
  simp only [awp]
  split at h
  ·rename_i j s1 h1
   refine ih _ _ _ h1 _ ?_
   split at h
   ·rename_i hj; cases h; simp only [blkX]; rw [if_pos hj]; exact hQ
   ·rename_i hj; cases h; simp only [blkX]; rw [if_neg hj]; exact hQ
  ·rename_i hne
   refine ih _ _ _ h _ ?_
   cases e with
   | nrm => exact hQ
   | ret => exact hQ
   | ex j => exact absurd h (hne _ _)
 | loop a ih => intro s e s' h Q hQ; exact xlp_ok ih fu s e s' h Q hQ
 | exit id => intro s e s' h Q hQ; cases h; exact hQ
 | ret => intro s e s' h Q hQ; cases h; exact hQ
 | own k E z =>
  intro s e s' h Q hQ
  simp only [xc, xown] at h
  simp only [awp, ownS]
  split at h
  ·rename_i h1 h2
   simp only [h1, h2]
   split at h
   ·rename_i hc; cases h; exact ⟨hc.1, hc.2, hQ⟩
   ·cases h
  ·cases h
 | ownb k off rk E z =>
  intro s e s' h Q hQ
  simp only [xc, xownb] at h
  simp only [awp, ownB]
  split at h
  ·rename_i h1 h2
   simp only [h1, h2]
   split at h
   ·rename_i hc; cases h; exact ⟨hc.1, hc.2, hQ⟩
   ·cases h
  ·cases h
 | ty k z => intro s e s' h Q hQ; cases h; exact hQ
end
/-- Keys, each for another one. -/
def swL : List (Nat × Nat) → Nat → Nat
 | [], k => k
 | (a, b) :: l, k => if k = a then b else if k = b then a else swL l k
def keysL : List (Nat × Nat) → List Nat
 | [] => []
 | (a, b) :: l => a :: b :: keysL l
def swOk : List (Nat × Nat) → Bool
 | [] => true
 | (a, b) :: l => (keysL l).all (fun k => k != a && k != b) && swOk l
theorem swL_in : ∀ {l : List (Nat × Nat)} {k : Nat}, swL l k = k ∨ swL l k ∈ keysL l
 | [], k => .inl rfl
 | (a, b) :: l, k => by
  simp only [swL, keysL, List.mem_cons]
  split
  ·exact .inr (.inr (.inl rfl))
  ·split
   ·exact .inr (.inl rfl)
   ·exact (swL_in (l := l) (k := k)).imp id fun h => .inr (.inr h)
theorem swL_swL : ∀ {l : List (Nat × Nat)}, swOk l = true → ∀ k, swL l (swL l k) = k
 | [], _, k => rfl
 | (a, b) :: l, h, k => by
  simp only [swOk, Bool.and_eq_true, List.all_eq_true, bne_iff_ne, ne_eq] at h
  have ih := swL_swL h.2 k
  by_cases ha : k = a
  ·subst ha; simp only [swL, if_true]; split <;> simp_all
  ·by_cases hb : k = b
   ·subst hb; simp [swL, ha]
   ·have e : swL ((a, b) :: l) k = swL l k := by simp only [swL, if_neg ha, if_neg hb]
    rw [e]
    rcases swL_in (l := l) (k := k) with h1 | h1
    ·rw [h1, e, h1]
    ·have := h.1 _ h1
     simp only [swL, if_neg this.1, if_neg this.2]; exact ih
section
variable {p q : Nat → Nat} (hp : ∀ k, p (p k) = k) (hq : ∀ k, q (q k) = k)
include hp hq
theorem rnC_rnC (c : Cel) : rnC p q (rnC p q c) = c := by
 have inv0 : ∀ c, rnC0 p q (rnC0 p q c) = c := fun c => by cases c <;> simp [rnC0, hp, hq]
 cases c with
 | fn f caps => simp [rnC, Function.comp_def, inv0]
 | mv f caps => simp [rnC, Function.comp_def, inv0]
 | _ => simp [rnC, rnC0, hp, hq]
theorem rnV_rnV {x : Val} (hx : ∀ xs, x ≠ .tu xs) : rnV p q (rnV p q x) = x := by
 cases x with
 | one c => simp only [rnV, rnC_rnC hp hq]
 | ag cs => simp [rnV, Function.comp_def, rnC_rnC hp hq]
 | tu xs => exact absurd rfl (hx xs)
 | any => rfl
theorem rnH_rnH (H : Hp) : (H.rn p q).rn p q = H := by
 obtain ⟨bs, rs⟩ := H
 simp [Hp.rn, Function.comp_def, hp, hq, rnC_rnC hp hq]
end
def ntu (l : List Val) : Bool := l.all fun x => match x with | .tu _ => false | _ => true
/-- A function of the program, as it is run. bk, rk: the keys of what it is handed; K: what it hands back. -/
structure Ent (P : Program) where
 f : FuncId
 fn : Func
 an : List Ann
 ac : AC
 rs : List RV
 bk : List Nat
 rk : List Nat
 K : Keep
 hf : P.funcs[f]? = some fn
 hk : knT P fn an = (true, false, some (ac, []), some rs, true)
def mkE {P : Program} {f : FuncId} {fn : Func} {ac : AC} {rs : List RV} (hf : P.funcs[f]? = some fn) (an : List Ann) (bk rk : List Nat := [])
  (hk : knQ P fn an = true := by kernel_rfl) (hr : rq P fn = rs := by conv => lhs; cbv) (hC : cc P fn an = ac := by conv => lhs; cbv) : Ent P :=
 ⟨f, fn, an, ac, rs, bk, rk, ⟨[], bk, rk⟩, hf, by have := kn_of hk; rw [hr, hC] at this; exact this⟩
def fndE {P : Program} (f : FuncId) : List (Ent P) → Option (Ent P)
 | [] => none
 | e :: l => if f = e.f then some e else fndE f l
theorem fndE_f {P : Program} {f : FuncId} : ∀ {l : List (Ent P)} {e : Ent P}, fndE f l = some e → e.f = f
 | e' :: l, e, h => by
  simp only [fndE] at h
  split at h
  ·cases h; exact Eq.symm (by assumption)
  ·exact fndE_f h
def fndM {P : Program} (f : FuncId) (nb nr : Nat) : List (Ent P) → Option (Ent P)
 | [] => none
 | e :: l => if f = e.f ∧ nb = e.bk.length ∧ nr = e.rk.length then some e else fndM f nb nr l
theorem fndM_f {P : Program} {f nb nr : Nat} : ∀ {l : List (Ent P)} {e : Ent P}, fndM f nb nr l = some e → e.f = f
 | e' :: l, e, h => by
  simp only [fndM] at h
  split at h
  ·rename_i he; cases h; exact he.1.symm
  ·exact fndM_f h
def bx0 (fin : Cel → Cel) : Option (List Cel) → Option (List Cel) → Option (List Cel)
 | none, _ => some []
 | some _, some cs => some (cs.map fin)
 | some _, none => none
def endF (rs : List RV) (xt : Option (List Cel)) : Option (AX × AS) → Option (List Cel × Val)
 | none => none
 | some (.ex _, _) => none
 | some (_, s) => match s.res rs, bx0 s.finC xt (s.bx 0) with
  | some r, some cs => some (cs, r)
  | _, _ => none
def endM (rs : List RV) (K : Keep) (S : List Nat) (H : Hp) : Option (AX × AS) → Option (Hp × Val)
 | none => none
 | some (.ex _, _) => none
 | some (_, s) => match s.resK K rs with
  | some r => if (stOk S s && zOk H.rs (s.outH K).rs) = true then some (s.outH K, r) else none
  | none => none
def runF (cf : CfT) (cm : CmT) (fu : Nat) {P : Program} (e : Ent P) (xt : Option (List Cel)) (args : List Val) : Option (List Cel × Val) :=
 if (if xt.isSome then 1 else 0) + args.length ≤ e.fn.ntmps then endF e.rs xt (xc cf cm fu e.ac (initSt xt args)) else none
def runM0 (cf : CfT) (cm : CmT) (fu : Nat) {P : Program} (e : Ent P) (S : List Nat) (H : Hp) (args : List Val) : Option (Hp × Val) :=
 if (decide (args.length ≤ e.fn.ntmps) && (H.bs.all (fun p => p.1 == 0 || decide (XK ≤ p.1)) && H.rs.all (fun p => decide (XK ≤ p.1)))) = true then endM e.rs e.K S H (xc cf cm fu e.ac (initM H args)) else none
/-- The same under other keys. -/
def renM (g : List Nat → Hp → List Val → Option (Hp × Val)) (pl ql : List (Nat × Nat)) (S : List Nat) (H : Hp) (args : List Val) : Option (Hp × Val) :=
 if (swOk pl && (swOk ql && (ntu args && (H.rn (swL pl) (swL ql)).bs.all (fun x => bldK x.1 == bldK (swL pl x.1))))) = true then
  (match g (S.map (swL ql)) (H.rn (swL pl) (swL ql)) (args.map (rnV (swL pl) (swL ql))) with
   | some (X, r) => some (X.rn (swL pl) (swL ql), rnV (swL pl) (swL ql) r)
   | none => none) else none
def keysM (m : CAnn) (bk rk : List Nat) : List (Nat × Nat) × List (Nat × Nat) :=
 ((m.bks ++ m.obs.filter fun k => !m.bks.contains k).zip bk, (m.rks ++ m.ors.filter fun k => !m.rks.contains k).zip rk)
def runM (cf : CfT) (cm : CmT) (fu : Nat) {P : Program} (e : Ent P) (m : CAnn) (H : Hp) (args : List Val) : Option (Hp × Val) :=
 renM (runM0 cf cm fu e) (keysM m e.bk e.rk).1 (keysM m e.bk e.rk).2 m.sts H args
theorem renM_ok {P : Program} {f : FuncId} {g : List Nat → Hp → List Val → Option (Hp × Val)} (hg : ∀ S H args X r, g S H args = some (X, r) → FCMS P f S H args (fun x y => x = X ∧ y = r)) {pl ql : List (Nat × Nat)} {S : List Nat} {H : Hp} {args : List Val} {X : Hp} {r : Val}
  (h : renM g pl ql S H args = some (X, r)) : FCMS P f S H args (fun x y => x = X ∧ y = r) := by
 unfold renM at h
 split at h
 ·rename_i hn
  simp only [Bool.and_eq_true] at hn
  obtain ⟨h1, h2, h3, h4⟩ := hn
  have hp := swL_swL h1
  have hq := swL_swL h2
  generalize swL pl = p at *
  generalize swL ql = q at *
  split at h
  ·rename_i X0 r0 h0
   cases h
   have hna : ∀ x ∈ args, ∀ xs, x ≠ .tu xs := fun x hx xs he => by
    have := List.all_eq_true.1 h3 x hx
    rw [he] at this; cases this
   have hna' : ∀ x ∈ args.map (rnV p q), ∀ xs, x ≠ .tu xs := fun x hx xs he => by
    obtain ⟨y, hy, rfl⟩ := List.mem_map.1 hx
    cases y with
    | tu ys => exact hna _ hy ys rfl
    | _ => cases he
   have h5 := fcms_rn hp hq hna' (hg _ _ _ _ _ h0) h4
   have e1 : (S.map q).map q = S := by simp [Function.comp_def, hq]
   have e2 : (args.map (rnV p q)).map (rnV p q) = args := by
    rw [List.map_map]
    exact (List.map_congr_left fun x hx => rnV_rnV hp hq (hna x hx)).trans (List.map_id _)
   rw [e1, rnH_rnH hp hq, e2] at h5
   have e3 : (fun H' r' => ∃ H0 r1, (H0 = X0 ∧ r1 = r0) ∧ H' = H0.rn p q ∧ r' = rnV p q r1) = fun x y => x = X0.rn p q ∧ y = rnV p q r0 := by
    funext x y
    exact propext ⟨fun ⟨_, _, ⟨a, b⟩, c, d⟩ => by subst a b; exact ⟨c, d⟩, fun ⟨c, d⟩ => ⟨_, _, ⟨rfl, rfl⟩, c, d⟩⟩
   rw [e3] at h5
   exact h5
  ·cases h
 ·cases h
section
variable {P : Program} {cf : CfT} {cm : CmT} (hcf : CfOk P cf) (hcm : CmOk P cm)
include hcf hcm
theorem runF_ok {fu : Nat} {e : Ent P} {xt : Option (List Cel)} {args : List Val} {cs : List Cel} {r : Val} (h : runF cf cm fu e xt args = some (cs, r)) : FC P e.f xt args (fun x y => x = cs ∧ y = r) := by
 unfold runF at h
 by_cases hn : (if xt.isSome then 1 else 0) + args.length ≤ e.fn.ntmps
 ·rw [if_pos hn] at h
  cases hx : xc cf cm fu e.ac (initSt xt args) with
  | none => rw [hx] at h; cases h
  | some y =>
   obtain ⟨x, s⟩ := y
   rw [hx] at h
   refine fc_mk e.an e.hf e.hk hn (xc_ok hcf hcm fu _ _ _ _ hx _ ?_)
   have key : (match s.res e.rs, bx0 s.finC xt (s.bx 0) with | some r, some cs => some (cs, r) | _, _ => none) = some (cs, r) → fpost xt e.rs (fun x y => x = cs ∧ y = r) .nrm s := fun h => by
    unfold fpost
    cases hr : s.res e.rs with
    | none => rw [hr] at h; cases h
    | some r' =>
     cases xt with
     | none => rw [hr] at h; cases h; simp only [hr]; exact ⟨trivial, trivial⟩
     | some c0 =>
      cases hb : s.bx 0 with
      | none => rw [hr, hb] at h; cases h
      | some c1 => rw [hr, hb] at h; cases h; simp only [hr, hb]; exact ⟨trivial, trivial⟩
   cases x with
   | ex j => cases h
   | nrm => exact key h
   | ret => exact key h
 ·rw [if_neg hn] at h; cases h
theorem runM0_ok {fu : Nat} {e : Ent P} {S : List Nat} {H : Hp} {args : List Val} {X : Hp} {r : Val} (h : runM0 cf cm fu e S H args = some (X, r)) : FCMS P e.f S H args (fun x y => x = X ∧ y = r) := by
 unfold runM0 at h
 split at h
 ·rename_i hn
  simp only [Bool.and_eq_true, decide_eq_true_eq, List.all_eq_true, Bool.or_eq_true, beq_iff_eq] at hn
  cases hx : xc cf cm fu e.ac (initM H args) with
  | none => rw [hx] at h; cases h
  | some y =>
   obtain ⟨x, s⟩ := y
   rw [hx] at h
   refine fcms_mk e.an e.hf e.hk (K := e.K) hn.1 hn.2.1 hn.2.2 (xc_ok hcf hcm fu _ _ _ _ hx _ ?_)
   have key : (match s.resK e.K e.rs with | some r => if (stOk S s && zOk H.rs (s.outH e.K).rs) = true then some (s.outH e.K, r) else none | none => none) = some (X, r) → stOk S s = true ∧ (match s.resK e.K e.rs with | some r' => zOk H.rs (s.outH e.K).rs = true ∧ s.outH e.K = X ∧ r' = r | none => False) := fun h => by
    split at h
    ·rename_i r' h1
     split at h
     ·rename_i hz
      simp only [Bool.and_eq_true] at hz
      cases h
      simp only []
      exact ⟨hz.1, hz.2, trivial, trivial⟩
     ·cases h
    ·cases h
   cases x with
   | ex j => cases h
   | nrm => exact key h
   | ret => exact key h
 ·cases h
theorem runM_ok {fu : Nat} {e : Ent P} {m : CAnn} {H : Hp} {args : List Val} {X : Hp} {r : Val} (h : runM cf cm fu e m H args = some (X, r)) : FCMS P e.f m.sts H args (fun x y => x = X ∧ y = r) :=
 renM_ok (fun _ _ _ _ _ h => runM0_ok hcf hcm h) h
end
/-- Contracts that are known already, as answers. -/
structure Orc (P : Program) where
 cf : CfT
 cm : CmT
 hf : CfOk P cf
 hm : CmOk P cm
def orElse' {α : Type} : Option α → Option α → Option α
 | some a, _ => some a
 | none, b => b
/-- The program runs n calls deep; fu: rounds of a loop. -/
def tower {P : Program} (o : Orc P) (tab : List (Ent P)) (fu : Nat) : Nat → CfT × CmT
 | 0 => (o.cf, o.cm)
 | n + 1 =>
  (fun f xt args => orElse' (o.cf f xt args) (match fndE f tab with | some e => runF (tower o tab fu n).1 (tower o tab fu n).2 fu e xt args | none => none),
   fun f m H args => orElse' (o.cm f m H args) (match fndM f m.obs.length m.ors.length tab with | some e => runM (tower o tab fu n).1 (tower o tab fu n).2 fu e m H args | none => none))
theorem tower_ok {P : Program} (o : Orc P) (tab : List (Ent P)) (fu : Nat) : ∀ n, CfOk P (tower o tab fu n).1 ∧ CmOk P (tower o tab fu n).2
 | 0 => ⟨o.hf, o.hm⟩
 | n + 1 => by
  obtain ⟨ih1, ih2⟩ := tower_ok o tab fu n
  refine ⟨fun f xt args cs r h => ?_, fun f m H args X r h => ?_⟩
  ·simp only [tower] at h
   cases h1 : o.cf f xt args with
   | some y => rw [h1] at h; cases h; exact o.hf _ _ _ _ _ h1
   | none =>
    rw [h1] at h
    cases h2 : fndE f tab with
    | none => rw [h2] at h; cases h
    | some e => rw [h2] at h; have := fndE_f h2; subst this; exact runF_ok ih1 ih2 h
  ·simp only [tower] at h
   cases h1 : o.cm f m H args with
   | some y => rw [h1] at h; cases h; exact o.hm _ _ _ _ _ _ h1
   | none =>
    rw [h1] at h
    cases h2 : fndM f m.obs.length m.ors.length tab with
    | none => rw [h2] at h; cases h
    | some e => rw [h2] at h; have := fndM_f h2; subst this; exact runM_ok ih1 ih2 h
/-- A contract that is known, as an answer. -/
structure OF (P : Program) where
 f : FuncId
 g : List Val → Option Val
 ok : ∀ args r, g args = some r → FC P f none args (fun _ y => y = r)
structure OM (P : Program) where
 f : FuncId
 bk : List Nat
 rk : List Nat
 g : List Nat → Hp → List Val → Option (Hp × Val)
 ok : ∀ S H args X r, g S H args = some (X, r) → FCMS P f S H args (fun x y => x = X ∧ y = r)
def orcF {P : Program} (f : FuncId) (args : List Val) : List (OF P) → Option Val
 | [] => none
 | e :: l => if f = e.f then (match e.g args with | some r => some r | none => orcF f args l) else orcF f args l
def orcM {P : Program} (f : FuncId) (m : CAnn) (H : Hp) (args : List Val) : List (OM P) → Option (Hp × Val)
 | [] => none
 | e :: l => if f = e.f then renM e.g (keysM m e.bk e.rk).1 (keysM m e.bk e.rk).2 m.sts H args else orcM f m H args l
theorem orcF_ok {P : Program} {f : FuncId} {args : List Val} {r : Val} : ∀ {l : List (OF P)}, orcF f args l = some r → FC P f none args (fun x y => x = [] ∧ y = r)
 | e :: l, h => by
  simp only [orcF] at h
  split at h
  ·rename_i hf
   subst hf
   split at h
   ·rename_i r' h1
    cases h
    have h2 := e.ok _ _ h1
    refine ⟨h2.1, fun w okA g vs htab he hl hv => Calls.mono (h2.2 w okA g vs htab he hl hv) ?_⟩
    rintro e' w' ⟨v, cs', r', h3, h4, h5, h6, h7⟩
    exact ⟨v, [], r', h3, ⟨rfl, h4⟩, h5, h6, fun h => by cases h⟩
   ·exact orcF_ok h
  ·exact orcF_ok h
theorem orcM_ok {P : Program} {f : FuncId} {m : CAnn} {H : Hp} {args : List Val} {X : Hp} {r : Val} : ∀ {l : List (OM P)}, orcM f m H args l = some (X, r) → FCMS P f m.sts H args (fun x y => x = X ∧ y = r)
 | e :: l, h => by
  simp only [orcM] at h
  split at h
  ·rename_i hf; subst hf; exact renM_ok e.ok h
  ·exact orcM_ok h
def mkO {P : Program} (fs : List (OF P)) (ms : List (OM P)) : Orc P :=
 ⟨fun f xt args => match xt with
   | none => (match orcF f args fs with | some r => some ([], r) | none => none)
   | some _ => none,
  fun f m H args => orcM f m H args ms,
  (fun f xt args cs r h => by
   cases xt with
   | some _ => cases h
   | none =>
    simp only [] at h
    split at h
    ·cases h; exact orcF_ok (by assumption)
    ·cases h),
  fun f m H args X r h => orcM_ok h⟩
/-- What a run says of a function that only reads. -/
theorem run_fc {P : Program} {fs : List (OF P)} {ms : List (OM P)} {tab : List (Ent P)} {fu n : Nat} {f : FuncId} {args : List Val} {r : Val} (h : (tower (mkO fs ms) tab fu n).1 f none args = some ([], r)) : FC P f none args (fun _ y => y = r) := by
 have h2 := (tower_ok _ _ _ _).1 _ _ _ _ _ h
 exact ⟨h2.1, fun w okA g vs htab he hl hv => Calls.mono (h2.2 w okA g vs htab he hl hv) fun e' w' ⟨v, cs', r', h3, h4, h5⟩ => ⟨v, cs', r', h3, h4.2, h5⟩⟩
end Go.Ai

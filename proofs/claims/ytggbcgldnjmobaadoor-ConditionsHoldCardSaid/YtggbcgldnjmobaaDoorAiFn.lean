/-
  The abstract layer: a whole function's contract out of its abstract run.
-/
import Derived.Test.YtggbcgldnjmobaaDoorAiCode
namespace Go.Ai
open Go
set_option linter.unusedSimpArgs false
set_option linter.unusedVariables false

def compileRes (P : Program) : List ResultVar → Option (List RV)
  | [] => some []
  | .tmp t :: l => (compileRes P l).map (.t t :: ·)
  | .cell a t :: l => match tyOf P t, compileRes P l with
    | some (ag, n), some rs => some (.cell a ag n :: rs)
    | _, _ => none

def slots : Nat → List Val → List (Nat × Val)
  | _, [] => []
  | k, v :: l => (k, v) :: slots (k + 1) l
def initSt : Option (List Cel) → List Val → AS
  | none, args => ⟨tabV (slots 0 args), tabO [], tabO []⟩
  | some cs, args => ⟨tabV ((0, .one (.bx 0 0)) :: slots 1 args), tabO [(0, cs)], tabO []⟩

def fpost (ext : Option (List Cel)) (rs : List RV) (R : List Cel → Val → Prop) : AX → AS → Prop
  | .ex _, _ => False
  | _, s => match s.res rs, ext with
    | some r, none => R [] r
    | some r, some _ => match s.bx 0 with
      | some cs => R (cs.map s.finC) r
      | none => False
    | none, _ => False

section
variable {P : Program} {w0 w w' : World} {okA : Nat → Prop} {ext : Ext} {N : Nat} {s : AS} {a : Act} {E : Env}

theorem fin_relC (h : St w0 okA ext N s a w E) {c : Cel} {v : Value} {ok' : Nat → Prop} {E' : Env} (hc : CRel w (okE w0 okA E) w0.heap.size E c v) (hok : ∀ b, okE w0 okA E b → ok' b) (hrow : ∀ k ver z u b, k < XK → E.rm k = some (ver, z, u) → (blkV u) = some b → ok' b) :
    CRel w ok' w0.heap.size E' (s.finC c) v := by
  have hone := hc.oneC
  cases c with
  | g u => exact hc
  | any => exact hc
  | sl fr z es =>
    cases fr with
    | false => exact DRel.keep hc (.refl _ w) (fun b _ ho => hok b ho)
    | true => exact DRel.keep (ok := fun b => w0.heap.size ≤ b ∧ okE w0 okA E b) hc (.refl _ w) (fun b _ ho => ⟨ho.1, hok b ho.2⟩)
  | ep cs =>
    obtain ⟨b, off, us, rfl, ho, hlt, hcs⟩ := hc
    exact ⟨b, off, us, rfl, hok b ho, hlt, fun j x hx => ⟨(hcs j x hx).1, (hcs j x hx).2.keep (.refl _ w) (fun b _ ho => hok b ho)⟩⟩
  | ow k ver =>
    simp only [AS.finC]
    cases hs : s.rw k with
    | none => exact hone
    | some r =>
      simp only []
      split
      · rename_i hver
        obtain ⟨h1, ver', z, u, hr, hle, hv, hzp⟩ := hc
        split
        · rename_i hxk
          obtain ⟨_, h2, u', vs, hu', h3, h4⟩ := h.rwS hs (h.zpos hs hr hzp)
          have hr2 := hr
          rw [hr] at hu'
          simp only [Option.some.injEq, Prod.mk.injEq] at hu'
          obtain ⟨rfl, rfl, rfl⟩ := hu'
          rw [hv hver]
          exact (row_sl h2 h3 rfl (h4.move (.refl _ w) (fun b _ ho => hok b ho) (Nat.le_refl _)) (fun b hb => ⟨(h.rfr k _ _ u b hr2 hb).elim id (fun h => by have := h.1; omega), hrow k _ _ _ b hxk hr2 hb⟩)).toC
        · exact hone
      · exact hone
  | _ => exact hone

theorem fin_relV (h : St w0 okA ext N s a w E) {x : Val} {v : Value} {ok' : Nat → Prop} {E' : Env} (hx : VRel w (okE w0 okA E) w0.heap.size E x v) (hok : ∀ b, okE w0 okA E b → ok' b) (hrow : ∀ k ver z u b, k < XK → E.rm k = some (ver, z, u) → (blkV u) = some b → ok' b) :
    VRel w ok' w0.heap.size E' (s.fin x) v := by
  cases hx with
  | one h1 => exact .one (fin_relC h h1 hok hrow)
  | @ag cs us h1 =>
    refine .ag ⟨by simpa using h1.1, fun i c u h2 h3 => ?_⟩
    rw [List.getElem?_map] at h2
    cases hi : cs[i]? with
    | none => rw [hi] at h2; cases h2
    | some c0 => rw [hi] at h2; simp at h2; subst h2; exact fin_relC h (h1.2 i c0 u hi h3) hok hrow
  | tu => exact .any
  | any => exact .any

theorem run_loadVar_cells {b off : Nat} {us : List Value} {t : TypeId} {d : TypeDesc} {i : TypeInfo} (hu : P.underlying t = some d) (hi : P.info? t = some i) (hc : ∀ (j : Nat) (u : Value), us[j]? = some u → w.cell? ⟨b, off + j, none⟩ = some u) :
    (isAggB d = true → us.length = i.size → (loadVar t ⟨b, off, none⟩).run P w = .ok (.agg us.toArray) w) ∧ (isAggB d = false → ∀ u, us[0]? = some u → (loadVar t ⟨b, off, none⟩).run P w = .ok u w) := by
  refine ⟨fun h1 hl => ?_, fun h1 u h0 => ?_⟩
  · have hload := run_loadCells_list (P := P) (w := w) ⟨b, off, none⟩ us (fun j v hv => by rw [add_none]; exact hc j v hv)
    rw [hl] at hload
    cases d <;> simp [isAggB] at h1 <;> simp [loadVar, isAgg, run_underlying hu, sizeOf, typeInfo, hi, hload]
  · have h3 := hc 0 u h0
    rw [Nat.add_zero] at h3
    cases d <;> simp [isAggB] at h1 <;> simp [loadVar, isAgg, run_underlying hu, load, Sem.run, h3]

def rvRun (tmps : Array Value) : ResultVar → Sem Value
  | .tmp t => pure (tmps.getD t undef)
  | .cell a t => do loadVar t (← asAddr (tmps.getD a undef))

theorem rv_rel (h : St w0 okA ext N s a w E) {ok' : Nat → Prop} {E' : Env} (hok : ∀ b, okE w0 okA E b → ok' b) (hrow : ∀ k ver z u b, k < XK → E.rm k = some (ver, z, u) → (blkV u) = some b → ok' b) :
    ∀ (rs : List ResultVar) (rvs : List RV) (vs : List Val), compileRes P rs = some rvs → rvs.mapM s.rv = some vs →
      ∃ us, (rs.mapM (rvRun a.tmps)).run P w = .ok us w ∧ vs.length = us.length ∧ ∀ (i : Nat) (x : Val) (u : Value), vs[i]? = some x → us[i]? = some u → VRel w ok' w0.heap.size E' x u
  | [], rvs, vs, h1, h2 => by
    simp [compileRes] at h1; subst h1; simp at h2; subst h2
    exact ⟨[], rfl, rfl, fun i x u h => by simp at h⟩
  | r :: rs, rvs, vs, h1, h2 => by
    have hstep : ∃ rv rvs', rvs = rv :: rvs' ∧ compileRes P rs = some rvs' ∧ ∀ x, s.rv rv = some x → ∃ u, (rvRun a.tmps r).run P w = .ok u w ∧ VRel w ok' w0.heap.size E' x u := by
      cases r with
      | tmp t =>
        simp only [compileRes, Option.map_eq_some_iff] at h1
        obtain ⟨rvs', h3, rfl⟩ := h1
        refine ⟨_, _, rfl, h3, fun x hx => ?_⟩
        simp only [AS.rv, Option.some.injEq] at hx; subst hx
        exact ⟨_, rfl, fin_relV h (h.tm t) hok hrow⟩
      | cell k t =>
        simp only [compileRes] at h1
        split at h1
        · rename_i ag n rvs' ht h3
          simp only [Option.some.injEq] at h1; subst h1
          obtain ⟨d, inf, hu, hi, he⟩ := ty_of ht
          simp only [Prod.mk.injEq] at he; obtain ⟨rfl, rfl⟩ := he
          refine ⟨_, _, rfl, h3, fun x hx => ?_⟩
          simp only [AS.rv] at hx
          split at hx
          · rename_i kk off hv
            split at hx
            · rename_i cs hs
              have htm := h.tm k
              rw [hv] at htm
              obtain ⟨g, hg, hp⟩ := one_c htm rfl
              obtain ⟨g', cur, ty, h4, h5, h6⟩ := h.bx kk cs hs
              rw [hg] at h4; injection h4 with h4; subst h4
              have hcell : ∀ (m : Nat) (j : Nat) (u : Value), ((cur.toList.drop off).take m)[j]? = some u → w.cell? ⟨g, off + j, none⟩ = some u := fun m j u hj => by
                rw [List.getElem?_take] at hj
                split at hj
                · rw [List.getElem?_drop] at hj
                  rw [cell_of_row w g (off + j) cur ty (0, 0) h5, ← Array.getElem?_toList, hj]
                · cases hj
              split at hx
              · rename_i hagg
                split at hx
                · rename_i hl
                  simp only [Option.some.injEq] at hx; subst hx
                  have h7 := (run_loadVar_cells (P := P) hu hi (hcell inf.size)).1 hagg (by have := h6.1; simp at hl ⊢; simp at this; omega)
                  refine ⟨_, ?_, fin_relV h (.ag ((h6.drop off).take inf.size)) hok hrow⟩
                  simp [rvRun, hp, asAddr, h7]
                · cases hx
              · rename_i hagg
                split at hx
                · rename_i c cs' hcs
                  simp only [Option.some.injEq] at hx; subst hx
                  obtain ⟨u, h8, h9⟩ := (h6.drop off).at_ (i := 0) (c := c) (by rw [hcs]; rfl)
                  have h7 := (run_loadVar_cells (P := P) (us := (cur.toList.drop off).take 1) hu hi (hcell 1)).2 (by simpa using hagg) u (by rw [List.getElem?_take]; simpa using h8)
                  refine ⟨u, ?_, fin_relV h (.one h9) hok hrow⟩
                  simp [rvRun, hp, asAddr, h7]
                · cases hx
            · cases hx
          · cases hx
        · cases h1
    obtain ⟨rv, rvs', rfl, h3, hrv⟩ := hstep
    simp only [List.mapM_cons, Option.bind_eq_bind, Option.bind_eq_some_iff, Option.pure_def, Option.some.injEq] at h2
    obtain ⟨x, hx, vs', hvs, rfl⟩ := h2
    obtain ⟨u, hu, hrel⟩ := hrv x hx
    obtain ⟨us, hus, hl, hrels⟩ := rv_rel h hok hrow rs rvs' vs' h3 hvs
    refine ⟨u :: us, by simp [List.mapM_cons, hu, hus], by simp [hl], fun i y z h4 h5 => ?_⟩
    match i with
    | 0 => simp at h4 h5; subst h4; subst h5; exact hrel
    | i + 1 => simp at h4 h5; exact hrels i y z h4 h5

theorem res_rel (h : St w0 okA ext N s a w E) {ok' : Nat → Prop} {E' : Env} (hok : ∀ b, okE w0 okA E b → ok' b) (hrow : ∀ k ver z u b, k < XK → E.rm k = some (ver, z, u) → (blkV u) = some b → ok' b)
    {fn : Func} {rvs : List RV} (hr : compileRes P fn.results.toList = some rvs) {r : Val} (hs : s.res rvs = some r) : ∃ v, (results fn a.tmps).run P w = .ok v w ∧ VRel w ok' w0.heap.size E' r v := by
  unfold AS.res at hs
  have hrun : ∀ us : List Value, (fn.results.toList.mapM (rvRun a.tmps)).run P w = .ok us w → (results fn a.tmps).run P w = .ok (if h : us.toArray.size = 1 then us.toArray[0] else .tuple us.toArray) w := fun us hus => by
    have h1 : results fn a.tmps = (do let vs ← fn.results.mapM (rvRun a.tmps); pure (if h : vs.size = 1 then vs[0] else .tuple vs)) := by
      unfold results
      congr 1
    rw [h1, Array.mapM_eq_mapM_toList]
    simp [hus]
  cases hm : rvs.mapM s.rv with
  | none => rw [hm] at hs; cases hs
  | some vs =>
    rw [hm] at hs
    obtain ⟨us, hus, hl, hrel⟩ := rv_rel (P := P) (E' := E') h hok hrow _ _ _ hr hm
    have hrun2 := hrun us hus
    match vs, us, hl, hrel, hs, hrun2 with
    | [x], [u], _, hrel, hs, hrun2 => simp only [Option.some.injEq] at hs; subst hs; exact ⟨u, by simpa using hrun2, hrel 0 x u rfl rfl⟩
    | [], [], _, hrel, hs, hrun2 => simp only [Option.some.injEq] at hs; subst hs; exact ⟨.tuple #[], by simpa using hrun2, .tu (us := []) rfl (fun i x u h => by simp at h)⟩
    | x :: y :: vs, u :: v :: us, hl, hrel, hs, hrun2 => simp only [Option.some.injEq] at hs; subst hs; exact ⟨.tuple (u :: v :: us).toArray, by simpa using hrun2, .tu hl hrel⟩

theorem slots_at : ∀ (k : Nat) (l : List Val) (t : Nat), tabV (slots k l) t = if k ≤ t then (l[t - k]?).getD .any else .any
  | k, [], t => by simp [slots, tabV]
  | k, v :: l, t => by
    simp only [slots, tabV, slots_at (k + 1) l t]
    by_cases e : t = k
    · subst e; simp
    · by_cases hlt : k ≤ t
      · have h1 : k + 1 ≤ t := by omega
        have h2 : t - k = (t - (k + 1)) + 1 := by omega
        simp [e, hlt, h1, h2]
      · have h1 : ¬ k + 1 ≤ t := by omega
        simp [e, hlt, h1]

theorem fc_of_awp {f : FuncId} {fn : Func} {c : Code} {xt : Option (List Cel)} {args : List Val} {R : List Cel → Val → Prop} {ac : AC} {anns : List Ann} {rs : List RV} (hf : P.funcs[f]? = some fn) (hb : fn.body = some c) (hnm : (fn.name == "runtime.NumGoroutine") = false)
    (hc : compileCode P fn.ntmps c anns = some (ac, [])) (hr : compileRes P fn.results.toList = some rs) (hN : fn.ntmps ≤ XK) (hnt : (if xt.isSome then 1 else 0) + args.length ≤ fn.ntmps)
    (h : awp P ac (fpost xt rs R) (initSt xt args)) : FC P f xt args R := by
  refine ⟨⟨fn, hf, by simp [hb], hnm⟩, fun w okA g vs hext hlen hargs => ?_⟩
  refine calls_of_wp hf hb ?_
  have hbase : ∀ {tab : List (Nat × Val)} {off : Nat}, off + vs.length ≤ fn.ntmps → True := fun _ => trivial
  cases hx : xt with
  | none =>
    subst hx
    have hst : St w okA ⟨fun _ => False, fun _ => none, fun _ _ => False, fun _ _ => True⟩ fn.ntmps (initSt none args) { tmps := vs.toArray ++ Array.replicate (fn.ntmps - vs.toArray.size) undef, defers := [] } w ⟨fun _ => none, fun _ => none⟩ := by
      refine ⟨by simp at hnt ⊢; omega, rfl, fun t => ?_, fun k cs hk => by simp [initSt, tabO] at hk, fun _ _ => rfl, fun k r hk => by simp [initSt, tabO] at hk, fun _ _ => rfl, fun _ _ _ h => (by cases h), fun _ _ _ _ _ _ h => (by cases h), fun _ _ _ _ _ _ _ _ _ h => (by cases h), fun _ _ h => (by cases h), fun _ _ _ h => (by cases h), hN, fun _ _ _ _ _ h => (by cases h), fun _ _ _ _ _ => trivial, Grew.refl _ _⟩
      simp only [initSt, slots_at, Nat.zero_le, if_true, Nat.sub_zero]
      cases ht : args[t]? with
      | none => exact .any
      | some x =>
        have hlt : t < vs.length := by have := (List.getElem?_eq_some_iff.1 ht).1; omega
        have h1 : (vs.toArray ++ Array.replicate (fn.ntmps - vs.toArray.size) undef).getD t undef = vs[t] := by
          rw [Array.getD_eq_getD_getElem?, Array.getElem?_append_left (by simpa using hlt)]; simp [hlt]
        rw [h1]
        refine (hargs t x _ ht (List.getElem?_eq_getElem hlt)).move (.refl _ w) (fun b hb ho => ⟨fun _ h => by simp at h, fun _ _ _ _ h => by simp at h, .inr ho⟩) (Nat.le_refl _) (EnvLe.refl _)
    refine wp_mono (awp_sound c anns [] ac hc _ _ _ _ _ (by simpa using hst) h) fun e a' w' hq => ?_
    have fin : ∀ s E, St w okA ⟨fun _ => False, fun _ => none, fun _ _ => False, fun _ _ => True⟩ fn.ntmps s a' w' E → (match s.res rs, (none : Option (List Cel)) with | some r, none => R [] r | some r, some _ => False | none, _ => False) → a'.defers = [] ∧ ∃ v, (results fn a'.tmps).run P w' = .ok v w' ∧
        ∃ v' cs' r, Ending.returned v = .returned v' ∧ R cs' r ∧ w.grownBy w' none ∧ VRel w' (fun b => w.heap.size ≤ b ∨ okA b) w.heap.size Env.none r v' ∧
          ((none : Option (List Cel)).isSome = true → ∃ cur ty, w'.heap[g]? = some (.cells cur ty (0, 0)) ∧ CsRel w' (fun b => (w.heap.size ≤ b ∨ okA b) ∧ b ≠ g) w.heap.size Env.none cs' cur.toList) := fun s E hst hR => by
      refine ⟨hst.defers, ?_⟩
      cases hres : s.res rs with
      | none => rw [hres] at hR; exact hR.elim
      | some r =>
        rw [hres] at hR
        obtain ⟨v, hv, hrel⟩ := res_rel (E' := Env.none) (ok' := fun b => w.heap.size ≤ b ∨ okA b) hst (fun b ho => ho.2.2) (fun k ver z u b hk0 hk hu => .inl ((hst.rfr k _ _ u b hk hu).elim id (fun h => by have := h.1; omega))) hr hres
        exact ⟨v, hv, v, [], r, rfl, hR, ⟨hst.frame.os, hst.frame.tape, hst.frame.output, hst.frame.size, fun k hk _ => hst.frame.block k hk (fun h => h)⟩, hrel, fun h => by cases h⟩
    cases e with
    | normal =>
      obtain ⟨s', E', hst', hq⟩ := hq
      simp only [fpost] at hq
      exact fin s' E' hst' (by cases hres : s'.res rs <;> rw [hres] at hq <;> first | exact hq.elim | exact hq)
    | ret =>
      obtain ⟨s', E', hst', hq⟩ := hq
      simp only [fpost] at hq
      exact fin s' E' hst' (by cases hres : s'.res rs <;> rw [hres] at hq <;> first | exact hq.elim | exact hq)
    | exit id => obtain ⟨s', E', hst', hq⟩ := hq; exact hq.elim
    | _ => exact hq.elim
  | some cs =>
    subst hx
    obtain ⟨hng, cur, ty, hgh, hcs⟩ := hext cs rfl
    have hglt : g < w.heap.size := by
      rcases Nat.lt_or_ge g w.heap.size with hl | hl
      · exact hl
      · rw [Array.getElem?_eq_none hl] at hgh; cases hgh
    let E0 : Env := ⟨fun k => if k = 0 then some g else none, fun _ => none⟩
    have hE0 : EnvLe Env.none E0 := ⟨fun k g h => (by cases h), fun k _ _ _ h => (by cases h)⟩
    have hok0 : ∀ b, b < w.heap.size → okA b → okE w okA E0 b := fun b hb ho => ⟨fun k h => (by
      simp only [E0] at h; split at h
      · injection h with h; subst h; exact hng ho
      · cases h), fun _ _ _ _ h => (by cases h), .inr ho⟩
    have hgm : ∀ {k g'}, E0.gm k = some g' → k = 0 ∧ g' = g := fun {k g'} h => by
      simp only [E0] at h; split at h
      · rename_i e; injection h with h; exact ⟨e, h.symm⟩
      · cases h
    have hst : St w okA ⟨fun b => b = g, fun _ => some g, fun _ _ => False, fun _ _ => True⟩ fn.ntmps (initSt (some cs) args) { tmps := (Value.pointer (some ⟨g, 0, none⟩) :: vs).toArray ++ Array.replicate (fn.ntmps - (Value.pointer (some ⟨g, 0, none⟩) :: vs).toArray.size) undef, defers := [] } w E0 := by
      refine ⟨by simp at hnt ⊢; omega, rfl, fun t => ?_, fun k cs' hk => ?_, fun k hk => ?_, fun k r hk => by simp [initSt, tabO] at hk, fun _ _ => rfl, fun k k' g' h h' => by rw [(hgm h).1, (hgm h').1], fun _ _ _ _ _ _ _ h => (by cases h), fun _ _ _ _ _ _ _ _ _ h => (by cases h), fun k g' h => .inr (hgm h).2, fun k g' _ h => by rw [(hgm h).2], hN, fun _ _ _ _ _ h => (by cases h), fun _ _ _ _ _ => trivial, Grew.refl _ _⟩
      · simp only [initSt, tabV, slots_at]
        by_cases e : t = 0
        · subst e
          rw [if_pos rfl]
          have h1 : ((Value.pointer (some ⟨g, 0, none⟩) :: vs).toArray ++ Array.replicate (fn.ntmps - (Value.pointer (some ⟨g, 0, none⟩) :: vs).toArray.size) undef).getD 0 undef = .pointer (some ⟨g, 0, none⟩) := by
            rw [Array.getD_eq_getD_getElem?, Array.getElem?_append_left (by simp)]; simp
          rw [h1]; exact .one ⟨g, by simp [E0], rfl⟩
        · rw [if_neg e, if_pos (by omega)]
          cases ht : args[t - 1]? with
          | none => exact .any
          | some x =>
            have hlt : t - 1 < vs.length := by have := (List.getElem?_eq_some_iff.1 ht).1; omega
            have h1 : ((Value.pointer (some ⟨g, 0, none⟩) :: vs).toArray ++ Array.replicate (fn.ntmps - (Value.pointer (some ⟨g, 0, none⟩) :: vs).toArray.size) undef).getD t undef = vs[t - 1] := by
              obtain ⟨t', rfl⟩ : ∃ t', t = t' + 1 := ⟨t - 1, by omega⟩
              rw [Array.getD_eq_getD_getElem?, Array.getElem?_append_left (by simp at hlt ⊢; omega)]; simp at hlt ⊢; simp [hlt]
            rw [h1]
            exact (hargs (t - 1) x _ ht (List.getElem?_eq_getElem hlt)).move (.refl _ w) hok0 (Nat.le_refl _) hE0
      · simp only [initSt, tabO] at hk
        split at hk
        · rename_i e; subst e; simp only [Option.some.injEq] at hk; subst hk
          exact ⟨g, cur, ty, by simp [E0], hgh, hcs.move (.refl _ w) hok0 (Nat.le_refl _) hE0⟩
        · cases hk
      · simp only [initSt, tabO] at hk
        split at hk
        · cases hk
        · rename_i e; simp [E0, e]
    refine wp_mono (awp_sound c anns [] ac hc _ _ _ _ _ (by simpa using hst) h) fun e a' w' hq => ?_
    have fin : ∀ s E, St w okA ⟨fun b => b = g, fun _ => some g, fun _ _ => False, fun _ _ => True⟩ fn.ntmps s a' w' E → (∃ r cs', s.res rs = some r ∧ s.bx 0 = some cs' ∧ R (cs'.map s.finC) r) → a'.defers = [] ∧ ∃ v, (results fn a'.tmps).run P w' = .ok v w' ∧
        ∃ v' cs' r, Ending.returned v = .returned v' ∧ R cs' r ∧ w.grownBy w' (some g) ∧ VRel w' (fun b => w.heap.size ≤ b ∨ okA b) w.heap.size Env.none r v' ∧
          ((some cs).isSome = true → ∃ cur ty, w'.heap[g]? = some (.cells cur ty (0, 0)) ∧ CsRel w' (fun b => (w.heap.size ≤ b ∨ okA b) ∧ b ≠ g) w.heap.size Env.none cs' cur.toList) := fun s E hst ⟨r, cs', hres, hbx, hR⟩ => by
      refine ⟨hst.defers, ?_⟩
      obtain ⟨v, hv, hrel⟩ := res_rel (E' := Env.none) (ok' := fun b => w.heap.size ≤ b ∨ okA b) hst (fun b ho => ho.2.2) (fun k ver z u b hk0 hk hu => .inl ((hst.rfr k _ _ u b hk hu).elim id (fun h => by have := h.1; omega))) hr hres
      obtain ⟨g', cur', ty', h1, h2, h3⟩ := hst.bx 0 cs' hbx
      have hgg : g' = g := by
        have := hst.gx 0 g' (.inl rfl) h1; injection this with this; exact this.symm
      subst hgg
      refine ⟨v, hv, v, cs'.map s.finC, r, rfl, hR, ⟨hst.frame.os, hst.frame.tape, hst.frame.output, hst.frame.size, fun k hk hne => hst.frame.block k hk (fun e => hne (by simpa using e))⟩, hrel, fun _ => ⟨cur', ty', h2, by simpa using h3.1, fun i c u h5 h6 => ?_⟩⟩
      rw [List.getElem?_map] at h5
      cases hi : cs'[i]? with
      | none => rw [hi] at h5; cases h5
      | some c0 =>
        rw [hi] at h5; simp at h5; subst h5
        exact fin_relC hst (h3.2 i c0 u hi h6) (fun b ho => ⟨ho.2.2, fun e => ho.1 0 (by rw [h1, e])⟩) (fun k ver z u b hk0 hk hu => ⟨.inl ((hst.rfr k _ _ u b hk hu).elim id (fun h => by have := h.1; omega)), fun e => hst.gr 0 g' k ver z u h1 hk (by rw [hu, e])⟩)
    have ends : ∀ s' : AS, (match s'.res rs, (some cs : Option (List Cel)) with
        | some r, none => R [] r
        | some r, some _ => match s'.bx 0 with
          | some cs => R (cs.map s'.finC) r
          | none => False
        | none, _ => False) → ∃ r cs', s'.res rs = some r ∧ s'.bx 0 = some cs' ∧ R (cs'.map s'.finC) r := fun s' hq => by
      cases hres : s'.res rs with
      | none => rw [hres] at hq; exact hq.elim
      | some r =>
        rw [hres] at hq
        cases hb0 : s'.bx 0 with
        | none => rw [hb0] at hq; exact hq.elim
        | some cs' => rw [hb0] at hq; exact ⟨r, cs', rfl, rfl, hq⟩
    cases e with
    | normal =>
      obtain ⟨s', E', hst', hq⟩ := hq
      exact fin s' E' hst' (ends s' hq)
    | ret =>
      obtain ⟨s', E', hst', hq⟩ := hq
      exact fin s' E' hst' (ends s' hq)
    | exit id => obtain ⟨s', E', hst', hq⟩ := hq; exact hq.elim
    | _ => exact hq.elim
end
end Go.Ai

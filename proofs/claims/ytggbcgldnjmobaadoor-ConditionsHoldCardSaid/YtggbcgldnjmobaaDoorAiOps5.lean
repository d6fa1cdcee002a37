/-
  The abstract layer: comparisons of bools and of structs, cell by cell; comparisons with nil.
-/
import Derived.Test.YtggbcgldnjmobaaDoorAiOps4
import Derived.Laws.StructEq
import Derived.ChangeKeysEq
namespace Go.Ai
open Go
set_option linter.unusedSimpArgs false
set_option linter.unusedVariables false

theorem eqL_append : ∀ {ks ls : List KTy} {cs ds : List Cel} {r : Bool}, eqL (ks ++ ls) cs ds = some r →
    ∃ r1 r2, eqL ks (cs.take ks.length) (ds.take ks.length) = some r1 ∧ eqL ls (cs.drop ks.length) (ds.drop ks.length) = some r2 ∧ r = (r1 && r2)
  | [], ls, cs, ds, r, h => ⟨true, r, rfl, by simpa using h, by simp⟩
  | k :: ks, ls, [], ds, r, h => by simp [eqL] at h
  | k :: ks, ls, c :: cs, [], r, h => by simp [eqL] at h
  | k :: ks, ls, c :: cs, d :: ds, r, h => by
    simp only [List.cons_append, eqL] at h
    cases h1 : eqK k c d with
    | none => rw [h1] at h; cases h
    | some a =>
      rw [h1] at h
      cases h2 : eqL (ks ++ ls) cs ds with
      | none => rw [h2] at h; cases h
      | some b =>
        rw [h2] at h
        simp only [Option.some.injEq] at h
        obtain ⟨r1, r2, h3, h4, h5⟩ := eqL_append h2
        refine ⟨a && r1, r2, ?_, by simpa using h4, ?_⟩
        · simp [eqL, h1, h3]
        · rw [← h, h5, Bool.and_assoc]

section
variable {P : Program}

/-- A value of a type out of its cells. -/
def valOf (P : Program) (t : TypeId) (xs : List Value) : Value :=
  match P.underlying t with
  | some (.struct _) => .agg xs.toArray
  | _ => xs.headD .nilIface

theorem run_part_of {e : TypeId} {i : TypeInfo} {d : TypeDesc} (hu : P.underlying e = some d) (hi : P.info? e = some i) (hk : (∃ fs, d = .struct fs) ∨ d = .bool ∨ (∃ k, d = .int k) ∨ d = .string) {xs : List Value} {off : Nat} (hl : off + i.size ≤ xs.length) (h1 : (∃ fs, d = .struct fs) ∨ i.size = 1) (w : World) :
    (part e xs.toArray off).run P w = .ok (valOf P e ((xs.drop off).take i.size)) w := by
  rcases hk with ⟨fs, rfl⟩ | rfl | ⟨k, rfl⟩ | rfl
  · have e1 : xs.toArray.extract off (off + i.size) = ((xs.drop off).take i.size).toArray := by
      apply Array.ext'; simp
    simp [part, isAgg, run_underlying hu, sizeOf, typeInfo, hi, valOf, hu]
  all_goals
    have h2 : i.size = 1 := by rcases h1 with ⟨fs, h1⟩ | h1; · cases h1
                               · exact h1
    have h3 : off < xs.length := by omega
    have h4 : (xs.drop off).take 1 = [xs[off]] := by
      rw [List.drop_eq_getElem_cons h3]; rfl
    simp [part, isAgg, run_underlying hu, valOf, hu, h2, h4, h3]

theorem eqL_len : ∀ {ks : List KTy} {cs ds : List Cel} {r : Bool}, eqL ks cs ds = some r → cs.length = ks.length ∧ ds.length = ks.length
  | [], [], [], _, _ => ⟨rfl, rfl⟩
  | [], c :: cs, ds, r, h => by simp [eqL] at h
  | [], [], d :: ds, r, h => by simp [eqL] at h
  | k :: ks, [], ds, r, h => by simp [eqL] at h
  | k :: ks, c :: cs, [], r, h => by simp [eqL] at h
  | k :: ks, c :: cs, d :: ds, r, h => by
    simp only [eqL] at h
    cases h1 : eqK k c d with
    | none => rw [h1] at h; cases h
    | some a =>
      rw [h1] at h
      cases h2 : eqL ks cs ds with
      | none => rw [h2] at h; cases h
      | some b => have := eqL_len h2; simp [this.1, this.2]

theorem run_eqSh : ∀ (m d : Nat) (t : TypeId) (ks : List KTy) (w : World) (xs ys : List Value) (r : Bool), eqSh P m t = some ks → eqL ks (xs.map .g) (ys.map .g) = some r → (Op.equalIn (d + m) t (valOf P t xs) (valOf P t ys)).run P w = .ok r w
  | 0, _, _, _, _, _, _, _, h, _ => by simp [eqSh] at h
  | m + 1, d, t, ks, w, xs, ys, r, h, he => by
    have fields : ∀ (fs : List Field) (off : Nat) (ls : List KTy) (r : Bool), eqShF P (eqSh P m) off fs = some ls → off + ls.length ≤ xs.length → off + ls.length ≤ ys.length → eqL ls (((xs.drop off).take ls.length).map .g) (((ys.drop off).take ls.length).map .g) = some r →
        (Op.eqFields (d + m) xs.toArray ys.toArray fs).run P w = .ok r w := by
      intro fs
      induction fs with
      | nil =>
        intro off ls r h1 _ _ h2
        simp only [eqShF, Option.some.injEq] at h1; subst h1
        simp [eqL] at h2; subst h2
        simp [Op.eqFields]
      | cons f fs ih =>
        intro off ls r h1 hx hy h2
        simp only [eqShF] at h1
        split at h1
        · rename_i k1 i k2 hk1 hi hk2
          split at h1
          · rename_i hcond
            obtain ⟨hn, hoff, hsz⟩ := hcond
            injection h1 with h1; subst h1
            obtain ⟨r1, r2, g1, g2, rfl⟩ := eqL_append h2
            have hcell : P.cellsOf f.type = k1.length := by
              simp [Program.cellsOf, hi, hsz]
            simp only [List.length_append] at hx hy g1 g2
            have p : ∀ zs : List Value, (((zs.drop off).take (k1.length + k2.length)).map Cel.g).take k1.length = ((zs.drop off).take k1.length).map .g := fun zs => by
              rw [← List.map_take, List.take_take, Nat.min_eq_left (by omega)]
            have q : ∀ zs : List Value, (((zs.drop off).take (k1.length + k2.length)).map Cel.g).drop k1.length = ((zs.drop (off + k1.length)).take k2.length).map .g := fun zs => by
              rw [← List.map_drop, List.drop_take, List.drop_drop, Nat.add_sub_cancel_left]
            rw [p, p] at g1
            rw [q, q] at g2
            have hu : ∃ dd, P.underlying f.type = some dd ∧ ((∃ fs, dd = .struct fs) ∨ dd = .bool ∨ (∃ k, dd = .int k) ∨ dd = .string) ∧ ((∃ fs, dd = .struct fs) ∨ k1.length = 1) := by
              cases m with
              | zero => simp [eqSh] at hk1
              | succ m =>
                simp only [eqSh] at hk1
                split at hk1
                · rename_i e1; injection hk1 with hk1; subst hk1; exact ⟨_, e1, .inr (.inl rfl), .inr rfl⟩
                · rename_i k e1; injection hk1 with hk1; subst hk1; exact ⟨_, e1, .inr (.inr (.inl ⟨k, rfl⟩)), .inr rfl⟩
                · rename_i e1; injection hk1 with hk1; subst hk1; exact ⟨_, e1, .inr (.inr (.inr rfl)), .inr rfl⟩
                · rename_i fs e1; exact ⟨_, e1, .inl ⟨fs, rfl⟩, .inl ⟨fs, rfl⟩⟩
                · cases hk1
            obtain ⟨dd, hu, hkind, hone⟩ := hu
            have hone' : (∃ fs, dd = .struct fs) ∨ i.size = 1 := by rw [hsz]; exact hone
            have pa := run_part_of hu hi hkind (xs := xs) (off := off) (by omega) hone' w
            have pb := run_part_of hu hi hkind (xs := ys) (off := off) (by omega) hone' w
            have ih0 := run_eqSh m d f.type k1 w ((xs.drop off).take k1.length) ((ys.drop off).take k1.length) r1 hk1 g1
            have hn' : f.name ≠ "_" := by intro e; rw [e] at hn; simp at hn
            rw [hsz] at pa pb
            simp only [Op.eqFields, hoff, hn', ne_eq, not_false_eq_true, if_true, Sem.run_bind, pa, pb, ih0, Result.andThen_ok]
            cases r1 with
            | false => simp
            | true =>
              have := ih (off + k1.length) k2 r2 (by rw [← hcell]; exact hk2) (by omega) (by omega) g2
              simpa using this
          · cases h1
        · cases h1
    simp only [eqSh] at h
    have hlen := eqL_len he
    simp only [List.length_map] at hlen
    split at h
    · rename_i hu
      injection h with h; subst h
      match xs, ys, hlen with
      | [x], [y], _ =>
        simp only [valOf, hu, List.headD]
        simp only [List.map_cons, List.map_nil, eqL] at he
        cases x <;> cases y <;> simp [eqK] at he
        subst he
        rw [← Nat.add_assoc, run_equalIn_bool w _ t _ _ hu]
        congr 1
    · rename_i k hu
      injection h with h; subst h
      match xs, ys, hlen with
      | [x], [y], _ =>
        simp only [valOf, hu, List.headD]
        simp only [List.map_cons, List.map_nil, eqL] at he
        have he' : eqK (.i k) (.g x) (.g y) = some r := by
          generalize eqK (.i k) (.g x) (.g y) = q at he ⊢
          cases q <;> simp at he ⊢; exact he
        cases x <;> cases y <;> simp [eqK] at he'
        rename_i k1 a k2 b _
        obtain ⟨⟨rfl, rfl⟩, rfl⟩ := he'
        rw [← Nat.add_assoc, run_equalIn_int w _ t _ _ a b hu]
        congr 1
    · rename_i hu
      injection h with h; subst h
      match xs, ys, hlen with
      | [x], [y], _ =>
        simp only [valOf, hu, List.headD]
        simp only [List.map_cons, List.map_nil, eqL] at he
        cases x <;> cases y <;> simp [eqK] at he
        subst he
        rw [← Nat.add_assoc, run_equalIn_string w _ t _ _ hu]
    · rename_i fs hu
      split at h
      · cases h
      · rename_i hst
        have hf : P.fieldsOf t = fs := by simp [Program.fieldsOf, hu]
        simp only [valOf, hu]
        rw [← Nat.add_assoc, run_equalIn_struct w _ t _ _ (by rw [hf]; exact hu) (by simpa using hst), hf]
        refine fields fs.toList 0 ks r h (by omega) (by omega) ?_
        have e1 : (xs.drop 0).take ks.length = xs := by rw [List.drop_zero, List.take_of_length_le (by omega)]
        have e2 : (ys.drop 0).take ks.length = ys := by rw [List.drop_zero, List.take_of_length_le (by omega)]
        rw [e1, e2]; exact he
    · cases h

variable {w0 w w' : World} {okA : Nat → Prop} {ext : Ext} {N : Nat} {s : AS} {a : Act} {E : Env} {o : Oper} {K : Act → World → Prop} {Q : Exit → Act → World → Prop}

/-- Cells that are compared as values are values. -/
theorem eqL_vals {ok : Nat → Prop} {base : Nat} : ∀ {ks : List KTy} {cs ds : List Cel} {us vs : List Value} {r : Bool}, eqL ks cs ds = some r → (∀ k ∈ ks, (match k with | .i _ | .b | .s => True | _ => False)) → CsRel w ok base E cs us → CsRel w ok base E ds vs → cs = us.map .g ∧ ds = vs.map .g
  | [], [], [], us, vs, r, _, _, h1, h2 => by
    have e1 : us = [] := by have := h1.1; cases us; rfl; simp at this
    have e2 : vs = [] := by have := h2.1; cases vs; rfl; simp at this
    subst e1; subst e2; simp
  | [], c :: cs, ds, _, _, r, h, _, _, _ => by simp [eqL] at h
  | [], [], d :: ds, _, _, r, h, _, _, _ => by simp [eqL] at h
  | k :: ks, [], ds, _, _, r, h, _, _, _ => by simp [eqL] at h
  | k :: ks, c :: cs, [], _, _, r, h, _, _, _ => by simp [eqL] at h
  | k :: ks, c :: cs, d :: ds, us, vs, r, h, hk, h1, h2 => by
    simp only [eqL] at h
    match us, vs, h1, h2 with
    | [], _, h1, _ => have := h1.1; simp at this
    | _ :: _, [], _, h2 => have := h2.1; simp at this
    | u :: us, v :: vs, h1, h2 =>
      cases g1 : eqK k c d with
      | none => rw [g1] at h; cases h
      | some a =>
        rw [g1] at h
        cases g2 : eqL ks cs ds with
        | none => rw [g2] at h; cases h
        | some b =>
          have t1 : CsRel w ok base E cs us := ⟨by simpa using h1.1, fun i c u hc hu => h1.2 (i + 1) c u (by simpa using hc) (by simpa using hu)⟩
          have t2 : CsRel w ok base E ds vs := ⟨by simpa using h2.1, fun i c u hc hu => h2.2 (i + 1) c u (by simpa using hc) (by simpa using hu)⟩
          obtain ⟨e1, e2⟩ := eqL_vals g2 (fun k hk' => hk k (by simp [hk'])) t1 t2
          have hc := h1.2 0 c u rfl rfl
          have hd := h2.2 0 d v rfl rfl
          have hk0 := hk k (by simp)
          subst e1; subst e2
          have key : (∃ x, c = .g x) ∧ (∃ y, d = .g y) := by
            cases k <;> simp at hk0 <;> (unfold eqK at g1; split at g1 <;> first | exact ⟨⟨_, rfl⟩, ⟨_, rfl⟩⟩ | (simp_all; done) | (rename_i h; cases h))
          obtain ⟨⟨x, rfl⟩, ⟨y, rfl⟩⟩ := key
          have ex : u = x := hc.1
          have ey : v = y := hd.1
          subst ex; subst ey
          simp

theorem eqL_one {k : KTy} {c e : Cel} {b : Bool} (h : eqL [k] [c] [e] = some b) : eqK k c e = some b := by
  simp only [eqL] at h
  generalize eqK k c e = q at h ⊢
  cases q <;> simp at h ⊢; exact h
theorem eqK_b_inv {c e : Cel} {r : Bool} (h : eqK .b c e = some r) : ∃ p q, c = .g (.bool p) ∧ e = .g (.bool q) ∧ r = decide (p = q) := by
  unfold eqK at h; split at h <;> simp_all
theorem eqK_ns_inv {c : Cel} {n m : Nat} {b : Bool} (h : eqK .ns c (.g (.slice none n m)) = some b) : (∃ fr z e es, c = .sl fr z (e :: es) ∧ b = false) ∨ (∃ n m, c = .g (.slice none n m) ∧ b = true) := by
  unfold eqK at h; split at h <;> simp_all
theorem eqK_np_inv {c : Cel} {b : Bool} (h : eqK .np c (.g (.pointer none)) = some b) : (∃ k off, c = .bx k off ∧ b = false) ∨ (∃ cs, c = .ep cs ∧ b = false) ∨ (c = .g (.pointer none) ∧ b = true) := by
  unfold eqK at h; split at h <;> simp_all
theorem eqK_ni_inv {c : Cel} {b : Bool} (h : eqK .ni c (.g .nilIface) = some b) : (c = .g .nilIface ∧ b = true) ∨ (∃ t v, c = .g (.iface t v) ∧ b = false) := by
  unfold eqK at h; split at h <;> simp_all

theorem eqSh_vals : ∀ {m : Nat} {t : TypeId} {ks : List KTy}, eqSh P m t = some ks → ∀ k ∈ ks, (match k with | .i _ | .b | .s => True | _ => False)
  | 0, _, _, h => by simp [eqSh] at h
  | m + 1, t, ks, h => by
    simp only [eqSh] at h
    split at h
    · injection h with h; subst h; simp
    · injection h with h; subst h; simp
    · injection h with h; subst h; simp
    · split at h
      · cases h
      · rename_i fs _ _
        have : ∀ (fs : List Field) (off : Nat) (ls : List KTy), eqShF P (eqSh P m) off fs = some ls → ∀ k ∈ ls, (match k with | .i _ | .b | .s => True | _ => False) := by
          intro fs
          induction fs with
          | nil => intro off ls h1; simp only [eqShF, Option.some.injEq] at h1; subst h1; simp
          | cons f fs ih =>
            intro off ls h1
            simp only [eqShF] at h1
            split at h1
            · rename_i k1 i k2 hk1 hi hk2
              split at h1
              · injection h1 with h1; subst h1
                intro k hk
                rcases List.mem_append.1 hk with hk | hk
                · exact eqSh_vals hk1 k hk
                · exact ih _ _ hk2 k hk
              · cases h1
            · cases h1
        exact this fs.toList 0 ks h
    · cases h

theorem s_eqs (h : St w0 okA ext N s a w E) {op : BinOp} {t t' : TypeId} {x x' : Operand} {y y' : Opd} {neg agg : Bool} {ks : List KTy} (hx : opd x = some y) (hx' : opd x' = some y') (he : eqIns P op t y' = some (neg, agg, ks)) (ho : o.op = .binOp op t x x' t') (hd : ∀ k, o.dst = some k → k < N)
    (hK : SGood (estep o.dst (.eqs neg agg ks y y') s) (Serves w0 okA ext N K)) : o.wp P a w K Q := by
  simp only [estep] at hK
  have hr := ev_rel h hx
  have hr' := ev_rel h hx'
  split at hK
  · rename_i b hb
    -- the comparison itself
    have key : eqIns.eqTy P t y' = some (agg, ks) → (eqGuard .eql t x x' (a.eval x) (a.eval x')).run P w = .ok () w ∧ (eqGuard .neq t x x' (a.eval x) (a.eval x')).run P w = .ok () w ∧
        (binOp .eql t (a.eval x) (a.eval x')).run P w = .ok (.bool b) w ∧ (binOp .neq t (a.eval x) (a.eval x')).run P w = .ok (.bool (!b)) w := by
      intro hty
      unfold eqIns.eqTy at hty
      generalize hz : y' = z at hty
      split at hty
      · rename_i hu
        simp only [Option.some.injEq, Prod.mk.injEq] at hty
        obtain ⟨rfl, rfl⟩ := hty
        cases hv : s.ev y <;> cases hv' : s.ev y' <;> rw [hv, hv'] at hb <;> simp only [eqV, Bool.false_eq_true, if_false, reduceCtorEq] at hb
        rename_i c d
        obtain ⟨p, q, rfl, rfl, rfl⟩ := eqK_b_inv (eqL_one hb)
        have e1 := one_g hr hv
        have e2 := one_g hr' hv'
        have h3 := fun p q => run_equalIn_bool (P := P) w 9999 t p q hu
        refine ⟨by simp [e1, e2, eqGuard], by simp [e1, e2, eqGuard], ?_, ?_⟩ <;> (simp only [e1, e2, binOp, Op.equal, Op.maxDepth, Sem.run_bind, h3, Result.andThen_ok, Sem.run_pure]; congr 2)
      · rename_i fs hu
        split at hty
        · cases hty
        · rename_i hg
          simp only [Option.map_eq_some_iff, Prod.mk.injEq] at hty
          obtain ⟨ks', hks, rfl, rfl⟩ := hty
          cases hv : s.ev y <;> cases hv' : s.ev y' <;> rw [hv, hv'] at hb <;> simp only [eqV, if_true, reduceCtorEq] at hb
          rename_i cs ds
          obtain ⟨us, e1, r1⟩ := ag_c hr hv
          obtain ⟨vs, e2, r2⟩ := ag_c hr' hv'
          obtain ⟨rfl, rfl⟩ := eqL_vals hb (eqSh_vals hks) r1 r2
          have h3 := run_eqSh 8 9992 t ks' w us vs b hks hb
          simp only [valOf, hu] at h3
          rw [e1, e2]
          refine ⟨run_eqGuard_agg w .eql t x x' _ _ (by simpa using hg), run_eqGuard_agg w .neq t x x' _ _ (by simpa using hg), ?_, ?_⟩
          · rw [run_eql_struct, h3]; rfl
          · rw [run_neq_struct, h3]; rfl
      · rename_i e n' c' hu
        subst hz
        simp only [Option.some.injEq, Prod.mk.injEq] at hty
        obtain ⟨rfl, rfl⟩ := hty
        have hv' : s.ev (.v (.slice none n' c')) = .one (.g (.slice none n' c')) := rfl
        have e2 := one_g hr' hv'
        cases hv : s.ev y <;> rw [hv, hv'] at hb <;> simp only [eqV, Bool.false_eq_true, if_false, reduceCtorEq] at hb
        rename_i c
        rcases eqK_ns_inv (eqL_one hb) with ⟨fr, z, e, es, rfl, rfl⟩ | ⟨n, m, rfl, rfl⟩
        · have h1 := one_c hr hv
          have h1' : ∃ ok, DRel w ok (.sl fr z (e :: es)) (a.eval x) := by
            cases fr <;> exact ⟨_, h1⟩
          obtain ⟨ok, h1'⟩ := h1'
          generalize a.eval x = vv at h1' ⊢
          rw [e2]
          cases h1' with
          | @sl _ _ _ bb off n c us _ _ _ _ _ _ _ =>
            have h3 : ∀ d : Nat, (Op.equalIn (d + 1) t (.slice (some ⟨bb, off, none⟩) n c) (.slice none n' c')).run P w = .ok false w := fun d => by simp [Op.equalIn, run_underlying hu]
            refine ⟨by simp [eqGuard], by simp [eqGuard], ?_, ?_⟩ <;> simp [binOp, Op.equal, Op.maxDepth, h3 9999]
        · have e1 := one_g hr hv
          rw [e1, e2]
          have h3 : ∀ d : Nat, (Op.equalIn (d + 1) t (.slice none n m) (.slice none n' c')).run P w = .ok true w := fun d => by simp [Op.equalIn, run_underlying hu]
          refine ⟨by simp [eqGuard], by simp [eqGuard], ?_, ?_⟩ <;> simp [binOp, Op.equal, Op.maxDepth, h3 9999]
      · rename_i e hu
        subst hz
        simp only [Option.some.injEq, Prod.mk.injEq] at hty
        obtain ⟨rfl, rfl⟩ := hty
        have hv' : s.ev (.v (.pointer none)) = .one (.g (.pointer none)) := rfl
        have e2 := one_g hr' hv'
        cases hv : s.ev y <;> rw [hv, hv'] at hb <;> simp only [eqV, Bool.false_eq_true, if_false, reduceCtorEq] at hb
        rename_i c
        have h1 := one_c hr hv
        rw [e2]
        have far : ∀ A : Addr, a.eval x = .pointer (some A) → b = false → (eqGuard .eql t x x' (a.eval x) (.pointer none)).run P w = .ok () w ∧ (eqGuard .neq t x x' (a.eval x) (.pointer none)).run P w = .ok () w ∧
            (binOp .eql t (a.eval x) (.pointer none)).run P w = .ok (.bool b) w ∧ (binOp .neq t (a.eval x) (.pointer none)).run P w = .ok (.bool (!b)) w := fun A e1 eb => by
          subst eb
          have h3 : ∀ d : Nat, (Op.equalIn (d + 1) t (.pointer (some A)) (.pointer none)).run P w = .ok false w := fun d => by simp [Op.equalIn, run_underlying hu]
          rw [e1]
          refine ⟨by simp [eqGuard], by simp [eqGuard], ?_, ?_⟩ <;> simp [binOp, Op.equal, Op.maxDepth, h3 9999]
        rcases eqK_np_inv (eqL_one hb) with ⟨k, off, rfl, hb'⟩ | ⟨cs, rfl, hb'⟩ | ⟨rfl, hb'⟩
        · obtain ⟨g, _, e1⟩ := h1
          exact far _ e1 hb'
        · obtain ⟨bb, off, us, e1, _⟩ := h1
          exact far _ e1 hb'
        · have e1 := one_g hr hv
          subst hb'
          rw [e1]
          have h3 : ∀ d : Nat, (Op.equalIn (d + 1) t (.pointer none) (.pointer none)).run P w = .ok true w := fun d => by simp [Op.equalIn, run_underlying hu]
          refine ⟨by simp [eqGuard], by simp [eqGuard], ?_, ?_⟩ <;> simp [binOp, Op.equal, Op.maxDepth, h3 9999]
      · rename_i ms hu
        subst hz
        simp only [Option.some.injEq, Prod.mk.injEq] at hty
        obtain ⟨rfl, rfl⟩ := hty
        have hv' : s.ev (.v .nilIface) = .one (.g .nilIface) := rfl
        have e2 := one_g hr' hv'
        cases hv : s.ev y <;> rw [hv, hv'] at hb <;> simp only [eqV, Bool.false_eq_true, if_false, reduceCtorEq] at hb
        rename_i c
        rw [e2]
        have hc' : ∃ v, x' = .const v := by
          cases x' <;> simp [opd] at hx'
          exact ⟨_, rfl⟩
        obtain ⟨cv, rfl⟩ := hc'
        rcases eqK_ni_inv (eqL_one hb) with ⟨rfl, rfl⟩ | ⟨ti, vi, rfl, rfl⟩
        · have e1 := one_g hr hv
          rw [e1]
          have h3 : ∀ d : Nat, (Op.equalIn (d + 1) t .nilIface .nilIface).run P w = .ok true w := fun d => by simp [Op.equalIn, run_underlying hu]
          refine ⟨by simp [eqGuard], by simp [eqGuard], ?_, ?_⟩ <;> simp [binOp, Op.equal, Op.maxDepth, h3 9999]
        · have e1 := one_g hr hv
          rw [e1]
          have h3 : ∀ d : Nat, (Op.equalIn (d + 1) t (.iface ti vi) .nilIface).run P w = .ok false w := fun d => by simp [Op.equalIn, run_underlying hu]
          refine ⟨by simp [eqGuard], by simp [eqGuard], ?_, ?_⟩ <;> simp [binOp, Op.equal, Op.maxDepth, h3 9999]
      · cases hty
    have hput := h.put (d := o.dst) (v := .bool (if neg then !b else b)) (x := bv (if neg then !b else b)) (.one ⟨rfl, rfl⟩) hd
    unfold eqIns at he
    split at he
    · simp only [Option.map_eq_some_iff, Prod.mk.injEq] at he
      obtain ⟨⟨g, l⟩, h1, rfl, h2⟩ := he
      simp only [Prod.mk.injEq] at h2
      obtain ⟨rfl, rfl⟩ := h2
      obtain ⟨k1, _, k3, _⟩ := key h1
      refine wp_value (v := .bool b) (w' := w) ?_ (hK _ _ E (by simpa using hput))
      simp [execOp, ho, k1, k3]
    · simp only [Option.map_eq_some_iff, Prod.mk.injEq] at he
      obtain ⟨⟨g, l⟩, h1, rfl, h2⟩ := he
      simp only [Prod.mk.injEq] at h2
      obtain ⟨rfl, rfl⟩ := h2
      obtain ⟨_, k2, _, k4⟩ := key h1
      refine wp_value (v := .bool (!b)) (w' := w) ?_ (hK _ _ E (by simpa using hput))
      simp [execOp, ho, k2, k4]
    · cases he
  · exact hK.elim
end
end Go.Ai

/-
  The abstract layer: the loaded operations, made into its own; each step is sound.
-/
import Derived.Test.YtggbcgldnjmobaaDoorAiKeep
namespace Go.Ai
open Go
set_option linter.unusedSimpArgs false
set_option linter.unusedVariables false

def okConst : Value → Bool
  | .agg cs => cs.toList.all Value.oneCell'
  | .tuple _ => false
  | _ => true
def opd : Operand → Option Opd
  | .tmp t => some (.t t)
  | .const v => if okConst v then some (.v v) else none
  | .func f => some (.f f)
  | .global _ => none
def isAggB : TypeDesc → Bool
  | .struct _ | .array _ _ => true
  | _ => false
/-- Is type t one of aggregates, and how many cells has it? -/
def tyOf (P : Program) (t : TypeId) : Option (Bool × Nat) :=
  match P.underlying t, P.info? t with
  | some d, some i => some (isAggB d, i.size)
  | _, _ => none
def fieldOf (P : Program) (t : TypeId) (k : Nat) : Option Field :=
  match P.underlying t with
  | some (.struct fs) => fs[k]?
  | _ => none
def elemOfSlice (P : Program) (t : TypeId) : Option (TypeId × TypeInfo) :=
  match P.underlying t with
  | some (.slice e) => (P.info? e).map fun i => (e, i)
  | _ => none
def zeroOf (P : Program) (t : TypeId) : Option (List Value) :=
  match P.info? t with
  | some i => match i.zero with
    | some z => if z.cells.toList.all Value.oneCell' then some z.cells.toList else none
    | none => none
  | none => none

def placesOf (P : Program) (t : TypeId) : Option (List (Nat × Nat)) :=
  match P.underlying t with
  | some (.struct fs) => fs.toList.mapM (fun f => (P.info? f.type).map fun i => (f.offset, i.size))
  | _ => none

/-- Is the callee a method of a pointer's, or handed a pointer first? -/
def ptrCall (P : Program) : Opd → Bool
  | .f n => match ((P.funcs[n]?).bind (fun fn => fn.params[0]?)).bind P.underlying with
    | some (.pointer _) => true
    | _ => false
  | _ => false

def eqShF (P : Program) (sh : TypeId → Option (List KTy)) : Nat → List Field → Option (List KTy)
  | _, [] => some []
  | off, f :: fs => match sh f.type, P.info? f.type, eqShF P sh (off + P.cellsOf f.type) fs with
    | some ks, some i, some ls => if (f.name == "_") = false ∧ f.offset = off ∧ i.size = ks.length then some (ks ++ ls) else none
    | _, _, _ => none
/-- The cells of a type whose values are compared cell by cell. -/
def eqSh (P : Program) : Nat → TypeId → Option (List KTy)
  | 0, _ => none
  | m + 1, t => match P.underlying t with
    | some .bool => some [.b]
    | some (.int k) => some [.i k]
    | some .string => some [.s]
    | some (.struct fs) => if P.stoodInHeld t then none else eqShF P (eqSh P m) 0 fs.toList
    | _ => none
/-- Comparisons that are made by the type. -/
def eqIns (P : Program) (op : BinOp) (t : TypeId) (y : Opd) : Option (Bool × Bool × List KTy) :=
  match op with
  | .eql => (eqTy P t y).map fun r => (false, r)
  | .neq => (eqTy P t y).map fun r => (true, r)
  | _ => none
where eqTy (P : Program) (t : TypeId) (y : Opd) : Option (Bool × List KTy) :=
  match P.underlying t, y with
  | some .bool, _ => some (false, [.b])
  | some (.struct _), _ => if P.eqGuardType P.depth t then none else (eqSh P 8 t).map fun ks => (true, ks)
  | some (.slice _), .v (.slice none _ _) => some (false, [.ns])
  | some (.pointer _), .v (.pointer none) => some (false, [.np])
  | some (.interface _), .v .nilIface => some (false, [.ni])
  | _, _ => none

/-- A zero value of one cell. -/
def zeroOne (P : Program) (t : TypeId) : Option Value :=
  match P.info? t with
  | some i => match i.zero with
    | some v => if v.oneCell' then some v else none
    | none => none
  | none => none
/-- The kind of a map's keys, and the type of its values. -/
def keyC (P : Program) (kt : TypeId) : Option Nat :=
  match P.underlying kt with
  | some .string => some 0
  | some (.int q) => some (kcode q)
  | _ => none
def mapOf (P : Program) (t : TypeId) : Option (Nat × TypeId) :=
  match P.underlying t with
  | some (.map kt et) => (keyC P kt).map fun c => (c, et)
  | _ => none

/-- A piece of a string. -/
def ssubOf (x : Opd) (lo hi : Option Operand) : Option Ins :=
  match lo, hi with
  | none, none => some (.ssub x none none)
  | some l, none => (opd l).map fun l => .ssub x (some l) none
  | none, some h => (opd h).map fun h => .ssub x none (some h)
  | some l, some h => match opd l, opd h with
    | some l, some h => some (.ssub x (some l) (some h))
    | _, _ => none
/-- The address of an array's element. -/
def aadrOf (P : Program) (t : TypeId) (x i : Opd) : Option Ins :=
  match P.underlying t with
  | some (.array n e) => (P.info? e).map fun inf => .aadr n inf.size x i
  | _ => none
def compileIns (P : Program) (o : Oper) : Option Ins :=
  match o.op with
  | .move x => (opd x).map .mv
  | .assign x => (opd x).map .mv
  | .pick c a b => match opd c, opd a, opd b with
    | some c, some a, some b => some (.pick c a b)
    | _, _, _ => none
  | .alloc t => (zeroOf P t).map .alloc
  | .box _ x => (opd x).map .box
  | .build t parts => match zeroOf P t, placesOf P t, parts.toList.mapM (fun p => match fieldOf P t p.1, opd p.2 with
      | some f, some x => (P.info? f.type).map fun i => (f.offset, i.size, x)
      | _, _ => none) with
    | some z, some _, some ps => some (.build z ps)
    | _, _, _ => none
  | .buildSlice t len parts => match elemOfSlice P t, parts.toList.mapM (fun p => opd p.2) with
    | some (_, i), some ps => if parts.toList.map (·.1) = List.range len ∧ 0 < i.size ∧ len * i.size ≤ 16777216 ∧ 0 < len ∧ (i.zero.map (·.cells.size)) = some i.size then some (.bslice i.size len ps) else none
    | _, _ => none
  | .load t x => match tyOf P t, opd x with
    | some (ag, n), some x => some (.load ag n x)
    | _, _ => none
  | .store t x v => match tyOf P t, opd x, opd v with
    | some (_, n), some x, some v => some (.store n x v)
    | _, _, _ => none
  | .nilCheck x => (opd x).map .nilchk
  | .binOp op t x y _ => match opd x, opd y with
    | some x, some y => match eqIns P op t y with
      | some (neg, agg, ks) => some (.eqs neg agg ks x y)
      | none => some (.bin op x y)
    | _, _ => none
  | .unOp op _ x => (opd x).map (.un op)
  | .convert src dst x => match P.underlying src, P.underlying dst, opd x with
    | some _, some (.int k), some x => some (.conv k x)
    | _, _, _ => none
  | .makeFunc (.func f) first caps => match caps.toList.mapM opd with
    | some cs => if first.size = 0 then some (.mkfn f cs) else none
    | none => none
  | .slice t x lo hi none => match elemOfSlice P t, opd x with
    | some (_, i), some x => match lo, hi with
      | none, none => some (.slc i.size x none none)
      | some l, none => (opd l).map fun l => .slc i.size x (some l) none
      | none, some h => (opd h).map fun h => .slc i.size x none (some h)
      | some l, some h => match opd l, opd h with
        | some l, some h => some (.slc i.size x (some l) (some h))
        | _, _ => none
    | none, some x => match P.underlying t with
      | some .string => ssubOf x lo hi
      | _ => none
    | _, _ => none
  | .fieldAddr t x k => match fieldOf P t k, opd x with
    | some f, some x => match P.info? f.type with
      | some i => if i.size = 0 then none else some (.fadr f.offset x)
      | none => none
    | _, _ => none
  | .field t x k => match fieldOf P t k, opd x with
    | some f, some x => match tyOf P f.type with
      | some (ag, n) => some (.fld f.offset ag n x)
      | none => none
    | _, _ => none
  | .indexAddr t x i => match elemOfSlice P t, opd x, opd i with
    | some (_, inf), some x, some i => some (.iadr inf.size x i)
    | none, some x, some i => aadrOf P t x i
    | _, _, _ => none
  | .index t x i => match P.underlying t, opd x, opd i with
    | some .string, some x, some i => some (.idx x i)
    | _, _, _ => none
  | .extract x i => (opd x).map fun x => .extr x i
  | .call { callee := .builtin .len, args, argTypes } => match args.toList, (argTypes[0]?).bind P.underlying with
    | [x], some (.slice _) => (opd x).map .len
    | [x], some .string => (opd x).map .slen
    | _, _ => none
  | .call { callee := .builtin .max, args, .. } => match args.toList with
    | [x, y] => match opd x, opd y with
      | some x, some y => some (.mnx true x y)
      | _, _ => none
    | _ => none
  | .call { callee := .builtin .min, args, .. } => match args.toList with
    | [x, y] => match opd x, opd y with
      | some x, some y => some (.mnx false x y)
      | _, _ => none
    | _ => none
  | .call { callee := .builtin .append, args, argTypes } => match args.toList, argTypes.toList with
    | [x, y], [t, t'] => match elemOfSlice P t, opd x, opd y with
      | some (e, i), some x, some y => if t = t' ∧ 0 < i.size ∧ (i.zero.map (·.cells.size)) = some i.size then some (.append e i.size i.bytes x y) else none
      | _, _, _ => none
    | _, _ => none
  | .call { callee := .value f, args, .. } => match opd f, args.toList.mapM opd with
    | some f, some as => some (if ptrCall P f then .callx f as else .call f as)
    | _, _ => none
  | .call { callee := .builtin .clear, args, argTypes } => match args.toList, argTypes.toList with
    | [x], [t] => match elemOfSlice P t, opd x with
      | some (e, i), some x => match zeroOf P e with
        | some z => if z.length = i.size then some (.clr e i.size z x) else none
        | none => none
      | _, _ => none
    | _, _ => none
  | .makeSlice t l c => match elemOfSlice P t, opd l, opd c with
    | some (e, i), some l, some c => match zeroOf P e with
      | some z => if z.length = i.size then some (.mkr e i.size i.bytes z l c) else none
      | none => none
    | _, _, _ => none
  | .makeMap t none => (mapOf P t).map fun p => .mkm p.1
  | .makeMap t (some (.const (.int _ _))) => (mapOf P t).map fun p => .mkm p.1
  | .mapUpdate t m k v => match mapOf P t, opd m, opd k, opd v with
    | some p, some m, some k, some v => some (.mup p.1 m k v)
    | _, _, _, _ => none
  | .insert t m k v => match mapOf P t, opd m, opd k, opd v with
    | some p, some m, some k, some v => some (.mup p.1 m k v)
    | _, _, _, _ => none
  | .lookup t m k ok => match mapOf P t, opd m, opd k with
    | some p, some m, some k => match zeroOne P p.2 with
      | some z => some (.mlk p.1 z ok m k)
      | none => none
    | _, _, _ => none
  | _ => none

theorem wp_value {P : Program} {o : Oper} {a : Act} {w w' : World} {K : Act → World → Prop} {Q : Exit → Act → World → Prop} {v : Value} (h : (execOp a.eval o).run P w = .ok (.value v) w') (hK : K (a.put o.dst v) w') : o.wp P a w K Q := by
  unfold Oper.wp; rw [h]; exact hK
theorem wp_skip_ {P : Program} {o : Oper} {a : Act} {w w' : World} {K : Act → World → Prop} {Q : Exit → Act → World → Prop} (h : (execOp a.eval o).run P w = .ok .skip w') (hK : K (a.put o.dst undef) w') : o.wp P a w K Q := by
  unfold Oper.wp; rw [h]; exact hK

section
variable {P : Program} {w0 w w' : World} {okA : Nat → Prop} {ext : Ext} {N : Nat} {s : AS} {a : Act} {E : Env} {o : Oper} {K : Act → World → Prop} {Q : Exit → Act → World → Prop}

theorem ofV_rel {v : Value} (h : okConst v = true) : VRel w (okE w0 okA E) w0.heap.size E (ofV v) v := by
  cases v with
  | agg cs =>
    have h1 : CsRel w (okE w0 okA E) w0.heap.size E (cs.toList.map .g) cs.toList := CsRel.gs _ (fun u hu => (List.all_eq_true.1 h) u hu)
    simpa [ofV] using VRel.ag h1
  | tuple vs => simp [okConst] at h
  | _ => exact .one ⟨rfl, rfl⟩

theorem ev_rel (h : St w0 okA ext N s a w E) {x : Operand} {y : Opd} (hx : opd x = some y) : VRel w (okE w0 okA E) w0.heap.size E (s.ev y) (a.eval x) := by
  cases x with
  | tmp t => simp only [opd, Option.some.injEq] at hx; subst hx; exact h.tm t
  | const v =>
    simp only [opd] at hx
    split at hx
    · rename_i hv; simp only [Option.some.injEq] at hx; subst hx; exact ofV_rel hv
    · cases hx
  | func f => simp only [opd, Option.some.injEq] at hx; subst hx; exact .one ⟨[], rfl, rfl, fun i c u h => by simp at h⟩
  | global g => simp [opd] at hx

/-- What a step's answer asks and gives. -/
def SGood : SRes → (AS → Prop) → Prop
  | .ok s, T => T s
  | .need p s, T => p ∧ T s
  | .bad, _ => False

/-- Every state that stands for s' serves. -/
def Serves (w0 : World) (okA : Nat → Prop) (ext : Ext) (N : Nat) (K : Act → World → Prop) (s' : AS) : Prop := ∀ a' w' E', St w0 okA ext N s' a' w' E' → K a' w'

theorem one_int {x : Val} {v : Value} {k : IntKind} {n : Int} {ok : Nat → Prop} {base : Nat} (h : VRel w ok base E x v) (hx : x = .one (.g (.int k n))) : v = .int k n := by
  subst hx; cases h with | one h1 => exact h1.1
theorem one_g {x : Val} {v u : Value} {ok : Nat → Prop} {base : Nat} (h : VRel w ok base E x v) (hx : x = .one (.g u)) : v = u := by
  subst hx; cases h with | one h1 => exact h1.1
theorem one_c {x : Val} {v : Value} {c : Cel} {ok : Nat → Prop} {base : Nat} (h : VRel w ok base E x v) (hx : x = .one c) : CRel w ok base E c v := by
  subst hx; cases h with | one h1 => exact h1
theorem ag_c {x : Val} {v : Value} {cs : List Cel} {ok : Nat → Prop} {base : Nat} (h : VRel w ok base E x v) (hx : x = .ag cs) : ∃ us, v = .agg us.toArray ∧ CsRel w ok base E cs us := by
  subst hx; cases h with | ag h1 => exact ⟨_, rfl, h1⟩
theorem tu_c {x : Val} {v : Value} {vs : List Val} {ok : Nat → Prop} {base : Nat} (h : VRel w ok base E x v) (hx : x = .tu vs) : ∃ us : List Value, v = .tuple us.toArray ∧ vs.length = us.length ∧ ∀ (i : Nat) (x : Val) (u : Value), vs[i]? = some x → us[i]? = some u → VRel w ok base E x u := by
  subst hx; cases h with | tu h1 h2 => exact ⟨_, rfl, h1, h2⟩

theorem s_mv (h : St w0 okA ext N s a w E) {x : Operand} {y : Opd} (hx : opd x = some y) (ho : o.op = .move x ∨ o.op = .assign x) (hd : ∀ k, o.dst = some k → k < N)
    (hK : SGood (estep o.dst (.mv y) s) (Serves w0 okA ext N K)) : o.wp P a w K Q := by
  refine wp_value (v := a.eval x) (w' := w) ?_ (hK _ _ E (h.put (ev_rel h hx) hd))
  rcases ho with ho | ho <;> simp [execOp, ho]

theorem zero_of {t : TypeId} {z : List Value} (hz : zeroOf P t = some z) : ∃ i v, P.info? t = some i ∧ i.zero = some v ∧ v.cells.toList = z ∧ ∀ u ∈ z, u.oneCell' = true := by
  unfold zeroOf at hz
  split at hz
  · rename_i i hi
    split at hz
    · rename_i v hv
      split at hz
      · rename_i hall
        simp only [Option.some.injEq] at hz
        exact ⟨i, v, hi, hv, hz, fun u hu => (List.all_eq_true.1 hall) u (hz ▸ hu)⟩
      · cases hz
    · cases hz
  · cases hz

theorem s_alloc (h : St w0 okA ext N s a w E) {t : TypeId} {z : List Value} (hz : zeroOf P t = some z) (ho : o.op = .alloc t) (hd : ∀ k, o.dst = some k → k < N)
    (hK : SGood (estep o.dst (.alloc z) s) (Serves w0 okA ext N K)) : o.wp P a w K Q := by
  obtain ⟨i, v, hi, hv, rfl, h1⟩ := zero_of hz
  cases hdst : o.dst with
  | none => rw [hdst] at hK; exact hK.elim
  | some k =>
    rw [hdst] at hK
    simp only [estep] at hK
    split at hK
    · rename_i hbx
      split at hK
      · exact hK.elim
      rename_i hk0
      have hs := h.box (ty := t) hbx hk0 (hd k hdst) (CsRel.gs (w := w) (ok := okE w0 okA E) (base := w0.heap.size) (E := E) v.cells.toList h1)
      refine wp_value (v := .pointer (some ⟨w.heap.size, 0, none⟩)) ?_ (hK _ _ _ (by rw [hdst]; exact hs))
      simp [execOp, ho, Instr.alloc, zeroValue, typeInfo, hi, hv, newVar, newRow, newObj, Sem.run]
    · exact hK.elim

theorem s_box (h : St w0 okA ext N s a w E) {t : TypeId} {x : Operand} {y : Opd} (hx : opd x = some y) (ho : o.op = .box t x) (hd : ∀ k, o.dst = some k → k < N)
    (hK : SGood (estep o.dst (.box y) s) (Serves w0 okA ext N K)) : o.wp P a w K Q := by
  cases hdst : o.dst with
  | none => rw [hdst] at hK; exact hK.elim
  | some k =>
    rw [hdst] at hK
    simp only [estep] at hK
    split at hK
    · rename_i k' cs hk' hcs
      injection hk' with hk'; subst hk'
      split at hK
      · rename_i hbx
        split at hK
        · exact hK.elim
        rename_i hk0
        have hs := h.box (ty := t) hbx hk0 (hd k hdst) ((ev_rel h hx).cells hcs)
        refine wp_value (v := .pointer (some ⟨w.heap.size, 0, none⟩)) ?_ (hK _ _ _ (by rw [hdst]; exact hs))
        simp [execOp, ho, Instr.box, newVar, newRow, newObj, Sem.run]
      · exact hK.elim
    · exact hK.elim

theorem s_un (h : St w0 okA ext N s a w E) {op : UnOp} {t : TypeId} {x : Operand} {y : Opd} (hx : opd x = some y) (ho : o.op = .unOp op t x) (hd : ∀ k, o.dst = some k → k < N)
    (hK : SGood (estep o.dst (.un op y) s) (Serves w0 okA ext N K)) : o.wp P a w K Q := by
  simp only [estep] at hK
  have hr := ev_rel h hx
  split at hK
  · rename_i b hv
    refine wp_value (v := .bool (!b)) (w' := w) ?_ (hK _ _ E (h.put (.one ⟨rfl, rfl⟩) hd))
    simp [execOp, ho, one_g hr hv, Op.unary]
  · rename_i k n hv
    refine wp_value (v := .int k (k.wrap (0 - n))) (w' := w) ?_ (hK _ _ E (h.put (.one ⟨rfl, rfl⟩) hd))
    simp [execOp, ho, one_g hr hv, Op.unary, Op.intArith]
  · exact hK.elim

theorem s_conv (h : St w0 okA ext N s a w E) {src dst : TypeId} {k : IntKind} {d : TypeDesc} {x : Operand} {y : Opd} (hx : opd x = some y) (hs : P.underlying src = some d) (hdst : P.underlying dst = some (.int k))
    (ho : o.op = .convert src dst x) (hd : ∀ k, o.dst = some k → k < N) (hK : SGood (estep o.dst (.conv k y) s) (Serves w0 okA ext N K)) : o.wp P a w K Q := by
  simp only [estep] at hK
  have hr := ev_rel h hx
  split at hK
  · rename_i j n hv
    refine wp_value (v := .int k (k.wrap n)) (w' := w) ?_ (hK _ _ E (h.put (.one ⟨rfl, rfl⟩) hd))
    simp [execOp, ho, one_g hr hv, convert, run_underlying hs, run_underlying hdst, Conv.intToInt]
  · exact hK.elim

theorem s_extr (h : St w0 okA ext N s a w E) {x : Operand} {y : Opd} {i : Nat} (hx : opd x = some y) (ho : o.op = .extract x i) (hd : ∀ k, o.dst = some k → k < N)
    (hK : SGood (estep o.dst (.extr y i) s) (Serves w0 okA ext N K)) : o.wp P a w K Q := by
  simp only [estep] at hK
  have hr := ev_rel h hx
  split at hK
  · rename_i vs hv
    split at hK
    · rename_i v hvi
      obtain ⟨us, hu, hl, hc⟩ := tu_c hr hv
      have hlt : i < us.length := by have := (List.getElem?_eq_some_iff.1 hvi).1; omega
      refine wp_value (v := us[i]) (w' := w) ?_ (hK _ _ E (h.put (hc i v _ hvi (List.getElem?_eq_getElem hlt)) hd))
      simp [execOp, ho, hu, Instr.extract, hlt]
    · exact hK.elim
  · exact hK.elim

theorem s_mkfn (h : St w0 okA ext N s a w E) {f : FuncId} {first caps : Array Operand} {cs : List Opd} (hx : caps.toList.mapM opd = some cs) (hf : first.size = 0) (ho : o.op = .makeFunc (.func f) first caps) (hd : ∀ k, o.dst = some k → k < N)
    (hK : SGood (estep o.dst (.mkfn f cs) s) (Serves w0 okA ext N K)) : o.wp P a w K Q := by
  simp only [estep] at hK
  split at hK
  · rename_i ds hds
    have hlist : ∀ (xs : List Operand) (cs : List Opd) (ds : List Cel), xs.mapM opd = some cs → cs.mapM (fun p => match s.ev p with | .one (.bx k off) => some (Cel.bx k off) | .one (.g v) => some (Cel.g v) | _ => none) = some ds →
        ds.length = (xs.map a.eval).length ∧ ∀ (i : Nat) (c : Cel) (u : Value), ds[i]? = some c → (xs.map a.eval)[i]? = some u → CRel0 w (okE w0 okA E) w0.heap.size E c u := by
      intro xs
      induction xs with
      | nil => intro cs ds h1 h2; simp at h1; subst h1; simp at h2; subst h2; exact ⟨rfl, fun i c u h => by simp at h⟩
      | cons x xs ih =>
        intro cs ds h1 h2
        simp only [List.mapM_cons, Option.bind_eq_bind, Option.bind_eq_some_iff, Option.pure_def, Option.some.injEq] at h1
        obtain ⟨y, hy, ys, hys, rfl⟩ := h1
        simp only [List.mapM_cons, Option.bind_eq_bind, Option.bind_eq_some_iff, Option.pure_def, Option.some.injEq] at h2
        obtain ⟨e, he, es, hes, rfl⟩ := h2
        obtain ⟨hl, hr⟩ := ih ys es hys hes
        refine ⟨by simp at hl ⊢; exact hl, fun i c u h3 h4 => ?_⟩
        match i with
        | 0 =>
          simp at h3 h4; subst h3; subst h4
          have hev := ev_rel h hy
          split at he
          · rename_i k off hv; simp only [Option.some.injEq] at he; subst he; exact one_c hev hv
          · rename_i v hv; simp only [Option.some.injEq] at he; subst he; exact one_c hev hv
          · cases he
        | i + 1 => simp at h3 h4; exact hr i c u h3 (by simpa using h4)
    obtain ⟨h1, h2⟩ := hlist _ _ _ hx hds
    refine wp_value (v := .func (.func f) #[] (caps.toList.map a.eval).toArray) (w' := w) ?_ (hK _ _ E (h.put (.one ⟨_, rfl, h1, h2⟩) hd))
    have : first.map a.eval = #[] := by rw [← Array.size_eq_zero_iff]; simpa using hf
    have h9 : caps.map a.eval = (caps.toList.map a.eval).toArray := by apply Array.ext'; simp
    simp only [execOp, ho, Instr.makeFunc, this, h9]; simp
  · exact hK.elim

theorem s_bin (h : St w0 okA ext N s a w E) {op : BinOp} {t t' : TypeId} {x x' : Operand} {y y' : Opd} (hx : opd x = some y) (hx' : opd x' = some y') (ho : o.op = .binOp op t x x' t') (hd : ∀ k, o.dst = some k → k < N)
    (hK : SGood (estep o.dst (.bin op y y') s) (Serves w0 okA ext N K)) : o.wp P a w K Q := by
  simp only [estep, binS] at hK
  have hr := ev_rel h hx
  have hr' := ev_rel h hx'
  split at hK
  · rename_i k m k' m' hv hv'
    have e1 := one_g hr hv
    have e2 := one_g hr' hv'
    cases op <;> simp only [] at hK <;> first
      | exact hK.elim
      | (split at hK
         · rename_i hk; subst hk
           first
             | (refine wp_value (w' := w) ?_ (hK _ _ E (h.put (.one ⟨rfl, rfl⟩) hd))
                simp [execOp, ho, e1, e2, eqGuard, binOp, Op.intArith, Op.intCmp, intBits_and, intBits_or, intBits_xor]; done)
             | (obtain ⟨hne, hK⟩ := hK
                refine wp_value (w' := w) ?_ (hK _ _ E (h.put (.one ⟨rfl, rfl⟩) hd))
                simp [execOp, ho, e1, e2, eqGuard, binOp, Op.intDiv, hne]; done)
         · exact hK.elim)
      | (obtain ⟨hne, hK⟩ := hK
         refine wp_value (w' := w) ?_ (hK _ _ E (h.put (.one ⟨rfl, rfl⟩) hd))
         simp [execOp, ho, e1, e2, eqGuard, binOp, Op.shift, Int.not_lt.2 hne]; done)
  · rename_i m m' hv hv'
    have e1 := one_g hr hv
    have e2 := one_g hr' hv'
    cases op <;> simp only [] at hK <;> first
      | exact hK.elim
      | (refine wp_value (w' := w) ?_ (hK _ _ E (h.put (.one ⟨rfl, rfl⟩) hd))
         simp [execOp, ho, e1, e2, eqGuard, binOp, Op.stringOp]; done)
      | (obtain ⟨hne, hK⟩ := hK
         refine wp_value (w' := w) ?_ (hK _ _ E (h.put (.one ⟨rfl, rfl⟩) hd))
         have h9 : ¬ (((m.size + m'.size : Nat) : Int) > IntKind.i64.max) := by show ¬ _ > (9223372036854775807 : Int); omega
         simp only [execOp, ho, e1, e2, eqGuard, binOp, Op.stringOp, if_neg h9]; first | done | rfl | simp)
  · exact hK.elim

theorem s_nilchk (h : St w0 okA ext N s a w E) {x : Operand} {y : Opd} (hx : opd x = some y) (ho : o.op = .nilCheck x) (hd : ∀ k, o.dst = some k → k < N)
    (hK : SGood (estep o.dst (.nilchk y) s) (Serves w0 okA ext N K)) : o.wp P a w K Q := by
  simp only [estep] at hK
  have hr := ev_rel h hx
  split at hK
  · rename_i k off hv
    obtain ⟨g, hg, hp⟩ := one_c hr hv
    refine wp_value (v := a.eval x) (w' := w) ?_ (hK _ _ E (h.put (hv ▸ hr) hd))
    simp [execOp, ho, hp]
  · rename_i cs hv
    obtain ⟨b, off, us, hp, _⟩ := one_c hr hv
    refine wp_value (v := a.eval x) (w' := w) ?_ (hK _ _ E (h.put (hv ▸ hr) hd))
    simp [execOp, ho, hp]
  · rename_i k ver i off hv
    split at hK
    · rename_i r hs
      split at hK
      · rename_i hver
        obtain ⟨_, ver', z, u, hm, _, hu, hzp⟩ := one_c hr hv
        obtain ⟨_, _, u', _, hm', _⟩ := h.rwS hs (h.zpos hs hm hzp)
        rw [hm] at hm'
        simp only [Option.some.injEq, Prod.mk.injEq] at hm'
        obtain ⟨rfl, rfl, rfl⟩ := hm'
        obtain ⟨g, n, c, _, hp⟩ := hu hver
        refine wp_value (v := a.eval x) (w' := w) ?_ (hK _ _ E (h.put (hv ▸ hr) hd))
        simp [execOp, ho, hp]
      · exact hK.elim
    · exact hK.elim
  · exact hK.elim

theorem s_len (h : St w0 okA ext N s a w E) {x : Operand} {y : Opd} {ts : Array TypeId} {t e : TypeId} (hx : opd x = some y) (hts : ts[0]? = some t) (hu : P.underlying t = some (.slice e))
    (ho : o.op = .call { callee := .builtin .len, args := #[x], argTypes := ts }) (hd : ∀ k, o.dst = some k → k < N) (hK : SGood (estep o.dst (.len y) s) (Serves w0 okA ext N K)) : o.wp P a w K Q := by
  simp only [estep] at hK
  have hr := ev_rel h hx
  have hsl : ∀ (b : Option Addr) (n c : Nat), a.eval x = .slice b n c → (execOp a.eval o).run P w = .ok (.value (.int .i64 n)) w := fun b n c hv => by
    simp [execOp, ho, resolve, invoke, builtin, Builtin.len_, hts, hv, run_underlying hu, goInt]
  split at hK
  · rename_i fr z es hv
    have h1 : DRel w (if fr then (fun b => w0.heap.size ≤ b ∧ okE w0 okA E b) else okE w0 okA E) (.sl fr z es) (a.eval x) := one_c hr hv
    have h2 : ∃ b c, a.eval x = .slice b es.length c := by
      generalize a.eval x = v at h1
      cases h1 with
      | nil => exact ⟨_, _, rfl⟩
      | sl us hn => subst hn; exact ⟨_, _, rfl⟩
    obtain ⟨b, c, h2⟩ := h2
    exact wp_value (hsl b _ c h2) (hK _ _ E (h.put (.one ⟨rfl, rfl⟩) hd))
  · rename_i b n c hv
    exact wp_value (hsl b n c (one_g hr hv)) (hK _ _ E (h.put (.one ⟨rfl, rfl⟩) hd))
  · rename_i k ver hv
    split at hK
    · rename_i r hs
      split at hK
      · rename_i hver
        obtain ⟨_, ver', z, u, hm, _, hu, hzp⟩ := one_c hr hv
        obtain ⟨_, _, u', _, hm', hown, _⟩ := h.rwS hs (h.zpos hs hm hzp)
        rw [hm] at hm'
        simp only [Option.some.injEq, Prod.mk.injEq] at hm'
        obtain ⟨rfl, rfl, rfl⟩ := hm'
        have h2 : ∃ b c, a.eval x = .slice b r.es.length c := by
          rw [hu hver]
          rcases hown.2 with ⟨rfl, h0⟩ | ⟨g, cap, cur, rfl, _⟩
          · rw [h0]; exact ⟨_, _, rfl⟩
          · exact ⟨_, _, rfl⟩
        obtain ⟨b, c, h2⟩ := h2
        exact wp_value (hsl b _ c h2) (hK _ _ E (h.put (.one ⟨rfl, rfl⟩) hd))
      · exact hK.elim
    · exact hK.elim
  · exact hK.elim

theorem s_slen (h : St w0 okA ext N s a w E) {x : Operand} {y : Opd} {ts : Array TypeId} {t : TypeId} (hx : opd x = some y) (hts : ts[0]? = some t) (hu : P.underlying t = some .string)
    (ho : o.op = .call { callee := .builtin .len, args := #[x], argTypes := ts }) (hd : ∀ k, o.dst = some k → k < N) (hK : SGood (estep o.dst (.slen y) s) (Serves w0 okA ext N K)) : o.wp P a w K Q := by
  simp only [estep] at hK
  have hr := ev_rel h hx
  split at hK
  · rename_i b hv
    refine wp_value (v := .int .i64 b.size) (w' := w) ?_ (hK _ _ E (h.put (.one ⟨rfl, rfl⟩) hd))
    simp [execOp, ho, resolve, invoke, builtin, Builtin.len_, hts, one_g hr hv, run_underlying hu, goInt]
  · exact hK.elim

theorem s_mnx (h : St w0 okA ext N s a w E) {mx : Bool} {x x' : Operand} {y y' : Opd} {ts : Array TypeId} (hx : opd x = some y) (hx' : opd x' = some y')
    (ho : o.op = .call { callee := .builtin (if mx then .max else .min), args := #[x, x'], argTypes := ts }) (hd : ∀ k, o.dst = some k → k < N) (hK : SGood (estep o.dst (.mnx mx y y') s) (Serves w0 okA ext N K)) : o.wp P a w K Q := by
  simp only [estep] at hK
  have hr := ev_rel h hx
  have hr' := ev_rel h hx'
  split at hK
  · rename_i k m k' m' hv hv'
    have e1 := one_g hr hv
    have e2 := one_g hr' hv'
    refine wp_value (w' := w) ?_ (hK _ _ E (h.put (.one ⟨rfl, rfl⟩) hd))
    cases mx <;> simp [execOp, ho, resolve, invoke, builtin, Builtin.max_, Builtin.min_, Builtin.max2, Builtin.min2, e1, e2]
  · exact hK.elim

theorem s_idx (h : St w0 okA ext N s a w E) {t : TypeId} {x x' : Operand} {y y' : Opd} (hx : opd x = some y) (hx' : opd x' = some y') (hu : P.underlying t = some .string)
    (ho : o.op = .index t x x') (hd : ∀ k, o.dst = some k → k < N) (hK : SGood (estep o.dst (.idx y y') s) (Serves w0 okA ext N K)) : o.wp P a w K Q := by
  simp only [estep] at hK
  have hr := ev_rel h hx
  have hr' := ev_rel h hx'
  split at hK
  · rename_i b k n hv hv'
    have e1 := one_g hr hv
    have e2 := one_g hr' hv'
    obtain ⟨⟨h0, h1⟩, hK⟩ := hK
    have hlt : n.toNat < b.size := by omega
    refine wp_value (w' := w) ?_ (hK _ _ E (h.put (.one ⟨rfl, rfl⟩) hd))
    have h2 : b.data.toList.getD n.toNat 0 = b[n.toNat] := by
      rw [List.getD_eq_getElem?_getD, List.getElem?_eq_getElem (by simpa using hlt)]; rfl
    have h3 : b[n.toNat]? = some b[n.toNat] := by simp [hlt]
    rw [h2]
    simp [execOp, ho, Instr.index, e1, e2, asIntOf, run_underlying hu, h0, hlt]
  · exact hK.elim

theorem s_fadr (h : St w0 okA ext N s a w E) {t : TypeId} {k : Nat} {f : Field} {i : TypeInfo} {x : Operand} {y : Opd} (hx : opd x = some y) (hf : fieldOf P t k = some f) (hi : P.info? f.type = some i) (hz : i.size ≠ 0)
    (ho : o.op = .fieldAddr t x k) (hd : ∀ k, o.dst = some k → k < N) (hK : SGood (estep o.dst (.fadr f.offset y) s) (Serves w0 okA ext N K)) : o.wp P a w K Q := by
  simp only [estep] at hK
  have hr := ev_rel h hx
  have hrun : ∀ b off, a.eval x = .pointer (some ⟨b, off, none⟩) → (execOp a.eval o).run P w = .ok (.value (.pointer (some ⟨b, off + f.offset, none⟩))) w := fun b off hv => by
    unfold fieldOf at hf
    split at hf
    · rename_i fs hu
      simp [execOp, ho, Instr.fieldAt, run_underlying hu, hf, hv, Instr.sureAddr, fieldPlace, sizeOf, typeInfo, hi, hz, add_none]
    · cases hf
  split at hK
  · rename_i k' off hv
    obtain ⟨g, hg, hp⟩ := one_c hr hv
    exact wp_value (hrun _ _ hp) (hK _ _ E (h.put (.one ⟨g, hg, rfl⟩) hd))
  · rename_i cs hv
    obtain ⟨b, off, us, hp, ho', hlt, hc⟩ := one_c hr hv
    refine wp_value (hrun _ _ hp) (hK _ _ E (h.put (.one ⟨b, off + f.offset, fun j => us (f.offset + j), rfl, ho', hlt, fun j x hx => ?_⟩) hd))
    rw [List.getElem?_drop] at hx
    obtain ⟨h1, h2⟩ := hc _ x hx
    exact ⟨by rw [Nat.add_assoc]; exact h1, h2⟩
  · rename_i k' ver i' off hv
    split at hK
    · rename_i r hs
      split at hK
      · rename_i hver
        obtain ⟨h1, ver', z, u, hm, hle, hu, hzp⟩ := one_c hr hv
        obtain ⟨_, _, u', _, hm', hown, _⟩ := h.rwS hs (h.zpos hs hm hzp)
        have hm2 := hm
        rw [hm] at hm'
        simp only [Option.some.injEq, Prod.mk.injEq] at hm'
        obtain ⟨rfl, rfl, rfl⟩ := hm'
        obtain ⟨g, n, c, hu1, hp⟩ := hu hver
        exact wp_value (hrun _ _ hp) (hK _ _ E (h.put (.one ⟨rfl, r.ver, r.z, u, hm2, hle, fun _ => ⟨g, n, c, hu1, by rw [Nat.add_assoc]⟩, hzp⟩) hd))
      · exact hK.elim
    · exact hK.elim
  · exact hK.elim

theorem s_iadr (h : St w0 okA ext N s a w E) {t e : TypeId} {i : TypeInfo} {x x' : Operand} {y y' : Opd} (hx : opd x = some y) (hx' : opd x' = some y') (hu : P.underlying t = some (.slice e)) (hi : P.info? e = some i)
    (ho : o.op = .indexAddr t x x') (hd : ∀ k, o.dst = some k → k < N) (hK : SGood (estep o.dst (.iadr i.size y y') s) (Serves w0 okA ext N K)) : o.wp P a w K Q := by
  simp only [estep] at hK
  have hr := ev_rel h hx
  have hr' := ev_rel h hx'
  have hrun : ∀ (b off n c : Nat) (k : IntKind) (m : Int), a.eval x = .slice (some ⟨b, off, none⟩) n c → a.eval x' = .int k m → 0 ≤ m → m < n → (execOp a.eval o).run P w = .ok (.value (.pointer (some ⟨b, off + m.toNat * i.size, none⟩))) w := fun b off n c k m hv hv' h0 h1 => by
    simp [execOp, ho, Instr.indexAt, hv, hv', asIntOf, run_underlying hu, sizeOf, typeInfo, hi, h0, h1, add_none]
  split at hK
  · rename_i fr z es k n hv hv'
    split at hK
    · rename_i hz; subst hz
      obtain ⟨⟨h0, h1⟩, hK⟩ := hK
      have e2 := one_g hr' hv'
      have hd2 : DRel w (okE w0 okA E) (.sl fr i.size es) (a.eval x) := by
        have h5 : DRel w (if fr then (fun b => w0.heap.size ≤ b ∧ okE w0 okA E b) else okE w0 okA E) (.sl fr i.size es) (a.eval x) := one_c hr hv
        cases fr with
        | false => exact h5
        | true => exact DRel.keep h5 (.refl _ w) (fun b _ ho => ho.2)
      generalize hvx : a.eval x = vx at hd2
      cases hd2 with
      | nil => simp at h1; omega
      | @sl fr z es b off m c us hn hc hb hlt hz hcell hrel =>
        subst hn
        refine wp_value (hrun b off _ c k n hvx e2 h0 h1) (hK _ _ E (h.put (.one ⟨b, off + n.toNat * i.size, fun j => us n.toNat j, rfl, hb, hlt, fun j x hx => ?_⟩) hd))
        have hlt2 : n.toNat < es.length := by omega
        have he : es[n.toNat]? = some (es.getD n.toNat []) := by rw [List.getD_eq_getElem?_getD, List.getElem?_eq_getElem hlt2]; rfl
        exact ⟨hcell _ _ _ _ he hx, hrel _ _ _ _ he hx⟩
    · exact hK.elim
  · rename_i k' ver k n hv hv'
    split at hK
    · rename_i r hs
      split at hK
      · rename_i hver
        obtain ⟨hver, hz⟩ := hver
        obtain ⟨⟨h0, h1⟩, hK⟩ := hK
        have e2 := one_g hr' hv'
        obtain ⟨_, ver', z, u, hm, hle, hu', hzp⟩ := one_c hr hv
        obtain ⟨_, _, u', _, hm', hown, _⟩ := h.rwS hs (h.zpos hs hm hzp)
        have hm2 := hm
        rw [hm] at hm'
        simp only [Option.some.injEq, Prod.mk.injEq] at hm'
        obtain ⟨rfl, rfl, rfl⟩ := hm'
        rcases hown.2 with ⟨_, h9⟩ | ⟨g, cap, cur, rfl, _⟩
        · omega
        · refine wp_value (hrun g 0 _ cap k n (hu' hver) e2 h0 h1) (hK _ _ E (h.put (.one ⟨rfl, r.ver, r.z, _, hm2, hle, fun _ => ⟨g, _, cap, rfl, by rw [hz]; simp⟩, hzp⟩) hd))
      · exact hK.elim
    · exact hK.elim
  · exact hK.elim

theorem s_aadr (h : St w0 okA ext N s a w E) {t e : TypeId} {n : Nat} {i : TypeInfo} {x x' : Operand} {y y' : Opd} (hx : opd x = some y) (hx' : opd x' = some y') (hu : P.underlying t = some (.array n e)) (hi : P.info? e = some i)
    (ho : o.op = .indexAddr t x x') (hd : ∀ k, o.dst = some k → k < N) (hK : SGood (estep o.dst (.aadr n i.size y y') s) (Serves w0 okA ext N K)) : o.wp P a w K Q := by
  simp only [estep] at hK
  have hr := ev_rel h hx
  have hr' := ev_rel h hx'
  have hrun : ∀ (b off : Nat) (k : IntKind) (m : Int), a.eval x = .pointer (some ⟨b, off, none⟩) → a.eval x' = .int k m → 0 ≤ m → m < n → (execOp a.eval o).run P w = .ok (.value (.pointer (some ⟨b, off + m.toNat * i.size, none⟩))) w := fun b off k m hv hv' h0 h1 => by
    simp [execOp, ho, Instr.indexAt, hv, hv', asIntOf, run_underlying hu, Instr.sureAddr, sizeOf, typeInfo, hi, h0, h1, add_none]
  split at hK
  · rename_i k' off k m hv hv'
    obtain ⟨⟨h0, h1⟩, hK⟩ := hK
    have e2 := one_g hr' hv'
    obtain ⟨g, hg, hp⟩ := one_c hr hv
    exact wp_value (hrun _ _ k m hp e2 h0 h1) (hK _ _ E (h.put (.one ⟨g, hg, rfl⟩) hd))
  · rename_i cs k m hv hv'
    obtain ⟨⟨h0, h1⟩, hK⟩ := hK
    have e2 := one_g hr' hv'
    obtain ⟨b, off, us, hp, ho', hlt, hc⟩ := one_c hr hv
    refine wp_value (hrun _ _ k m hp e2 h0 h1) (hK _ _ E (h.put (.one ⟨b, off + m.toNat * i.size, fun j => us (m.toNat * i.size + j), rfl, ho', hlt, fun j x hx => ?_⟩) hd))
    rw [List.getElem?_drop] at hx
    obtain ⟨h1, h2⟩ := hc _ x hx
    exact ⟨by rw [Nat.add_assoc]; exact h1, h2⟩
  · exact hK.elim

theorem run_ssub {t : TypeId} (hu : P.underlying t = some .string) (b : ByteArray) (lo hi' : Option Value) {l h : Nat}
    (hlo : (lo = none ∧ l = 0) ∨ ∃ k m, lo = some (.int k m) ∧ 0 ≤ m ∧ l = m.toNat) (hh : (hi' = none ∧ h = b.size) ∨ ∃ k m, hi' = some (.int k m) ∧ 0 ≤ m ∧ h = m.toNat) (hlh : l ≤ h) (hhn : h ≤ b.size) (w : World) :
    (Instr.sliceAt t (.string b) lo hi' none).run P w = .ok (.string (b.extract l h)) w := by
  rcases hlo with ⟨rfl, rfl⟩ | ⟨k, m, rfl, hm, rfl⟩ <;> rcases hh with ⟨rfl, rfl⟩ | ⟨k', m', rfl, hm', rfl⟩
  · simp [Instr.sliceAt, run_underlying hu, Instr.slice, Instr.sliceBounds]
  · have h1 : m' ≤ (b.size : Int) := by omega
    simp [Instr.sliceAt, run_underlying hu, Instr.slice, Instr.sliceBounds, Instr.sliceBound, asIntOf, hm', h1]
  · have h1 : m ≤ (b.size : Int) := by omega
    simp [Instr.sliceAt, run_underlying hu, Instr.slice, Instr.sliceBounds, Instr.sliceBound, asIntOf, hm, h1]
  · have h1 : m' ≤ (b.size : Int) := by omega
    have h2 : m ≤ m' := by omega
    have h3 : (m'.toNat : Int) = m' := by omega
    simp [Instr.sliceAt, run_underlying hu, Instr.slice, Instr.sliceBounds, Instr.sliceBound, asIntOf, hm, hm', h1, h2, h3]

theorem s_ssub (h : St w0 okA ext N s a w E) {t : TypeId} {x : Operand} {y : Opd} (hx : opd x = some y) (hu : P.underlying t = some .string) (lo hi' : Option Operand) {i : Ins} (hi : ssubOf y lo hi' = some i)
    (ho : o.op = .slice t x lo hi' none) (hd : ∀ k, o.dst = some k → k < N) (hK : SGood (estep o.dst i s) (Serves w0 okA ext N K)) : o.wp P a w K Q := by
  have hr := ev_rel h hx
  have core : ∀ (b : ByteArray) (l hh : Nat), s.ev y = .one (.g (.string b)) → ((lo.map a.eval = none ∧ l = 0) ∨ ∃ k m, lo.map a.eval = some (.int k m) ∧ 0 ≤ m ∧ l = m.toNat) → ((hi'.map a.eval = none ∧ hh = b.size) ∨ ∃ k m, hi'.map a.eval = some (.int k m) ∧ 0 ≤ m ∧ hh = m.toNat) → l ≤ hh → hh ≤ b.size →
      Serves w0 okA ext N K (s.put o.dst (sv (b.extract l hh))) → o.wp P a w K Q := fun b l hh hv h1 h2 h3 h4 hK => by
    have e1 := one_g hr hv
    have hrun := run_ssub (P := P) hu b (lo.map a.eval) (hi'.map a.eval) h1 h2 h3 h4 w
    refine wp_value (v := .string (b.extract l hh)) (w' := w) ?_ (hK _ _ E (h.put (.one ⟨rfl, rfl⟩) hd))
    simp only [execOp, ho, Option.map_none, Sem.run_bind, e1, hrun]
    rfl
  have gi : ∀ (u : Operand) (v : Opd) (k : IntKind) (m : Int), opd u = some v → s.ev v = .one (.g (.int k m)) → a.eval u = .int k m := fun u v k m hu hv => one_g (ev_rel h hu) hv
  unfold ssubOf at hi
  split at hi
  · injection hi with hi; subst hi
    simp only [estep, Option.map_none] at hK
    split at hK
    · rename_i b hv _ _
      refine core b 0 b.size hv (.inl ⟨rfl, rfl⟩) (.inl ⟨rfl, rfl⟩) (Nat.zero_le _) (Nat.le_refl _) ?_
      rw [ByteArray.extract_zero_size]; exact hK
    · rename_i hc _; cases hc
    · rename_i hc; cases hc
    · rename_i hc _; cases hc
    · exact hK.elim
  · rename_i u
    simp only [Option.map_eq_some_iff] at hi
    obtain ⟨v, huv, rfl⟩ := hi
    simp only [estep, Option.map_none, Option.map_some] at hK
    split at hK
    · rename_i hc _; cases hc
    · rename_i b k l hv hl _
      simp only [Option.some.injEq] at hl
      obtain ⟨⟨h0, h1⟩, hK⟩ := hK
      exact core b l.toNat b.size hv (.inr ⟨k, l, by simp [gi u v k l huv hl], h0, rfl⟩) (.inl ⟨rfl, rfl⟩) (by omega) (Nat.le_refl _) hK
    · rename_i hc; cases hc
    · rename_i hc; cases hc
    · exact hK.elim
  · rename_i u
    simp only [Option.map_eq_some_iff] at hi
    obtain ⟨v, huv, rfl⟩ := hi
    simp only [estep, Option.map_none, Option.map_some] at hK
    split at hK
    · rename_i hc; cases hc
    · rename_i hc _; cases hc
    · rename_i b k l hv _ hl
      simp only [Option.some.injEq] at hl
      obtain ⟨⟨h0, h1⟩, hK⟩ := hK
      exact core b 0 l.toNat hv (.inl ⟨rfl, rfl⟩) (.inr ⟨k, l, by simp [gi u v k l huv hl], h0, rfl⟩) (by omega) (by omega) hK
    · rename_i hc _; cases hc
    · exact hK.elim
  · rename_i u u'
    split at hi
    · rename_i v v' huv huv'
      injection hi with hi; subst hi
      simp only [estep, Option.map_some] at hK
      split at hK
      · rename_i hc _; cases hc
      · rename_i hc; cases hc
      · rename_i hc _; cases hc
      · rename_i b k l k' m hv hl hm
        simp only [Option.some.injEq] at hl hm
        obtain ⟨⟨h0, h1, h2⟩, hK⟩ := hK
        exact core b l.toNat m.toNat hv (.inr ⟨k, l, by simp [gi u v k l huv hl], h0, rfl⟩) (.inr ⟨k', m, by simp [gi u' v' k' m huv' hm], by omega, rfl⟩) (by omega) (by omega) hK
      · exact hK.elim
    · cases hi

/-- Cells read one by one. -/
theorem load_rel {b off : Nat} {cs : List Cel} {us : Nat → Value} {ok : Nat → Prop} {base : Nat} (hc : ∀ (j : Nat) (x : Cel), cs[j]? = some x → w.cell? ⟨b, off + j, none⟩ = some (us j) ∧ CRel w ok base E x (us j)) {t : TypeId} {d : TypeDesc} {i : TypeInfo}
    (hu : P.underlying t = some d) (hi : P.info? t = some i) (x : Operand) (hx : a.eval x = .pointer (some ⟨b, off, none⟩)) (ho : o.op = .load t x) :
    ∀ s' T, SGood (loadS s s' (isAggB d) i.size cs) T → ∃ v y, (execOp a.eval o).run P w = .ok (.value v) w ∧ VRel w ok base E y v ∧ T (s.put s' y) := by
  intro dst T hK
  unfold loadS at hK
  split at hK
  · rename_i hagg
    obtain ⟨hl, hK⟩ := hK
    refine ⟨.agg ((List.range i.size).map us).toArray, _, ?_, .ag ⟨by simp; omega, fun j c u h1 h2 => ?_⟩, hK⟩
    · have h1 : isAggB d = true := hagg
      have hload := run_loadCells_list (P := P) (w := w) ⟨b, off, none⟩ ((List.range i.size).map us) (fun j v hv => by
        rw [add_none]
        rw [List.getElem?_map] at hv
        cases hj : (List.range i.size)[j]? with
        | none => rw [hj] at hv; cases hv
        | some j' =>
          rw [hj] at hv; simp at hv; subst hv
          have : j < i.size ∧ j' = j := by
            have := List.getElem?_eq_some_iff.1 hj; obtain ⟨h3, h4⟩ := this; simp at h3 h4; exact ⟨h3, h4.symm⟩
          obtain ⟨h3, rfl⟩ := this
          exact (hc j' (cs[j']'(by omega)) (List.getElem?_eq_getElem _)).1)
      have hsz : ((List.range i.size).map us).length = i.size := by simp
      rw [hsz] at hload
      cases d <;> simp [isAggB] at h1 <;> simp [execOp, ho, hx, Instr.loadAt, Instr.sureAddr, loadVar, isAgg, run_underlying hu, sizeOf, typeInfo, hi, hload]
    · rw [List.getElem?_map] at h2
      cases hj : (List.range i.size)[j]? with
      | none => rw [hj] at h2; cases h2
      | some j' =>
        rw [hj] at h2; simp at h2; subst h2
        have : j < i.size ∧ j' = j := by
          have := List.getElem?_eq_some_iff.1 hj; obtain ⟨h3, h4⟩ := this; simp at h3 h4; exact ⟨h3, h4.symm⟩
        obtain ⟨h3, rfl⟩ := this
        rw [List.getElem?_take, if_pos h3] at h1
        exact (hc _ _ h1).2
  · rename_i hagg
    split at hK
    · rename_i c cs'
      obtain ⟨h1, h2⟩ := hc 0 c rfl
      refine ⟨us 0, _, ?_, .one h2, hK⟩
      have h3 : isAggB d = false := by simpa using hagg
      rw [Nat.add_zero] at h1
      cases d <;> simp [isAggB] at h3 <;> simp [execOp, ho, hx, Instr.loadAt, Instr.sureAddr, loadVar, isAgg, run_underlying hu, load, Sem.run, h1]
    · exact hK.elim

theorem s_load (h : St w0 okA ext N s a w E) {t : TypeId} {d : TypeDesc} {i : TypeInfo} {x : Operand} {y : Opd} (hx : opd x = some y) (hu : P.underlying t = some d) (hi : P.info? t = some i)
    (ho : o.op = .load t x) (hd : ∀ k, o.dst = some k → k < N) (hK : SGood (estep o.dst (.load (isAggB d) i.size y) s) (Serves w0 okA ext N K)) : o.wp P a w K Q := by
  simp only [estep] at hK
  have hr := ev_rel h hx
  split at hK
  · rename_i k off hv
    split at hK
    · rename_i cs hs
      obtain ⟨g, hg, hp⟩ := one_c hr hv
      obtain ⟨g', cur, ty, h1, h2, h3⟩ := h.bx k cs hs
      rw [hg] at h1; injection h1 with h1; subst h1
      obtain ⟨v, yv, hrun, hrel, hT⟩ := load_rel (E := E) (a := a) (o := o) (s := s) (cs := cs.drop off) (us := fun j => (cur.toList[off + j]?).getD undef) (ok := okE w0 okA E) (base := w0.heap.size) (fun j x hx => by
        rw [List.getElem?_drop] at hx
        obtain ⟨u, h4, h5⟩ := h3.at_ hx
        simp only [h4, Option.getD_some]
        exact ⟨by rw [cell_of_row w g (off + j) cur ty (0, 0) h2, ← Array.getElem?_toList, h4], h5⟩) hu hi x hp ho _ _ hK
      exact wp_value hrun (hT _ _ E (h.put hrel hd))
    · exact hK.elim
  · rename_i cs hv
    obtain ⟨b, off, us, hp, hok, hlt, hc⟩ := one_c hr hv
    obtain ⟨v, yv, hrun, hrel, hT⟩ := load_rel (E := E) (a := a) (o := o) (s := s) (cs := cs.map Cel.dat) (us := us) (ok := okE w0 okA E) (base := w0.heap.size) (fun j x hx => by
        rw [List.getElem?_map] at hx
        cases hj : cs[j]? with
        | none => rw [hj] at hx; cases hx
        | some c0 =>
          rw [hj] at hx; simp at hx; subst hx
          obtain ⟨h1, h2⟩ := hc j c0 hj
          refine ⟨h1, ?_⟩
          generalize us j = uj at h2
          cases h2 with
          | g hv => exact ⟨rfl, hv⟩
          | any hv => exact hv
          | nil => exact DRel.nil
          | sl us' h1 h2 h3 h4 h5 h6 h7 => exact DRel.sl us' h1 h2 h3 h4 h5 h6 h7) hu hi x hp ho _ _ hK
    exact wp_value hrun (hT _ _ E (h.put hrel hd))
  · rename_i k ver j off hv
    split at hK
    · rename_i r hs
      split at hK
      · rename_i hver
        split at hK
        · rename_i e he
          obtain ⟨_, ver', z, u, hm, hle, hu', hzp⟩ := one_c hr hv
          obtain ⟨_, hrow, u', vs, hm', hown, hrel0⟩ := h.rwS hs (h.zpos hs hm hzp)
          rw [hm] at hm'
          simp only [Option.some.injEq, Prod.mk.injEq] at hm'
          obtain ⟨rfl, rfl, rfl⟩ := hm'
          obtain ⟨g, n, c, rfl, hp⟩ := hu' hver
          obtain ⟨v, yv, hrun, hrel, hT⟩ := load_rel (E := E) (a := a) (o := o) (s := s) (cs := e.drop off) (us := fun l => vs.getD (j * r.z + (off + l)) undef) (ok := okE w0 okA E) (base := w0.heap.size) (fun l x hx => by
            have hx' := hx
            rw [List.getElem?_drop] at hx'
            obtain ⟨h6, h7, h8⟩ := vs_at (n := 0) hrow hrel0 he hx'
            have h4 := hown.cells (g := g) rfl _ _ h6
            rw [add_none, Nat.zero_add, ← Nat.add_assoc] at h4
            exact ⟨by rw [h4, Nat.add_assoc], (h8.ofD h7).toC⟩) hu hi x hp ho _ _ hK
          exact wp_value hrun (hT _ _ E (h.put hrel hd))
        · exact hK.elim
      · exact hK.elim
    · exact hK.elim
  · exact hK.elim
end
end Go.Ai

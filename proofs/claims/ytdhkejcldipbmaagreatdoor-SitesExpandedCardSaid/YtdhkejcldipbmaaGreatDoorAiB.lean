/-
 The abstract layer: the loaded operations, made into its own; each step is sound.
 The abstract layer: the operations that write, grow or lay memory; struct and slice literals.
 The abstract layer: slices cut, struct and slice literals, append.
 The abstract layer: append; what a callee is handed and hands back.
 The abstract layer: comparisons of bools and of structs, cell by cell; comparisons with nil.
 The abstract layer: a row's suffix, a row cut short, a suffix that is cleared, a row that is made.
 The abstract layer: maps that the call itself has made.
-/
import Derived.Test.YtdhkejcldipbmaaGreatDoorAiA
import Derived.Laws.OwnMore
import Derived.Laws.StructEq
import Derived.ChangeKeysEq
import Derived.MapKept
import Derived.Lib.AppendStr
import Derived.Laws.IdiomStrings
namespace Go.Ai
open Go
set_option linter.unusedSimpArgs false
set_option linter.unusedVariables false
def okConst : Value → Bool
 | .agg cs => cs.toList.all Value.oneCell'
 | .tuple _ => false
 | _ => true
def opd : Operand → Option Opd
 | .tmp t => some (.t t)
 | .const v => if okConst v then some (.v v) else none
 | .func f => some (.f f)
 | .global _ => none
def isAggB : TypeDesc → Bool
 | .struct _ | .array _ _ => true
 | _ => false
/-- Is type t one of aggregates, and how many cells has it? -/
def tyOf (P : Program) (t : TypeId) : Option (Bool × Nat) :=
 match P.underlying t, P.info? t with
 | some d, some i => some (isAggB d, i.size)
 | _, _ => none
def fieldOf (P : Program) (t : TypeId) (k : Nat) : Option Field :=
 match P.underlying t with
 | some (.struct fs) => fs[k]?
 | _ => none
def elemOfSlice (P : Program) (t : TypeId) : Option (TypeId × TypeInfo) :=
 match P.underlying t with
 | some (.slice e) => (P.info? e).map fun i => (e, i)
 | _ => none
def zeroOf (P : Program) (t : TypeId) : Option (List Value) :=
 match P.info? t with
 | some i => match i.zero with
  | some z => if z.cells.toList.all Value.oneCell' then some z.cells.toList else none
  | none => none
 | none => none
def placesOf (P : Program) (t : TypeId) : Option (List (Nat × Nat)) :=
 match P.underlying t with
 | some (.struct fs) => fs.toList.mapM (fun f => (P.info? f.type).map fun i => (f.offset, i.size))
 | _ => none
/-- Is the callee a method of a pointer's, or handed a pointer first? -/
def ptrCall (P : Program) : Opd → Bool
 | .f n => match ((P.funcs[n]?).bind (fun fn => fn.params[0]?)).bind P.underlying with
  | some (.pointer _) => true
  | _ => false
 | _ => false
def eqShF (P : Program) (sh : TypeId → Option (List KTy)) : Nat → List Field → Option (List KTy)
 | _, [] => some []
 | off, f :: fs => match sh f.type, P.info? f.type, eqShF P sh (off + P.cellsOf f.type) fs with
  | some ks, some i, some ls => if (f.name == "_") = false ∧ f.offset = off ∧ i.size = ks.length then some (ks ++ ls) else none
  | _, _, _ => none
/-- The cells of a type whose values are compared cell by cell. -/
def eqSh (P : Program) : Nat → TypeId → Option (List KTy)
 | 0, _ => none
 | m + 1, t => match P.underlying t with
  | some .bool => some [.b]
  | some (.int k) => some [.i k]
  | some .string => some [.s]
  | some (.struct fs) => if P.stoodInHeld t then none else eqShF P (eqSh P m) 0 fs.toList
  | _ => none
/-- Comparisons that are made by the type. -/
def eqIns (P : Program) (op : BinOp) (t : TypeId) (y : Opd) : Option (Bool × Bool × List KTy) :=
 match op with
 | .eql => (eqTy P t y).map fun r => (false, r)
 | .neq => (eqTy P t y).map fun r => (true, r)
 | _ => none
where eqTy (P : Program) (t : TypeId) (y : Opd) : Option (Bool × List KTy) :=
 match P.underlying t, y with
 | some .bool, _ => some (false, [.b])
 | some (.struct _), _ => if P.eqGuardType P.depth t then none else (eqSh P 8 t).map fun ks => (true, ks)
 | some (.slice _), .v (.slice none _ _) => some (false, [.ns])
 | some (.pointer _), .v (.pointer none) => some (false, [.np])
 | some (.interface _), .v .nilIface => some (false, [.ni])
 | _, _ => none
/-- A zero value of one cell. -/
def zeroOne (P : Program) (t : TypeId) : Option Value :=
 match P.info? t with
 | some i => match i.zero with
  | some v => if v.oneCell' then some v else none
  | none => none
 | none => none
/-- The kind of a map's keys, and the type of its values. -/
def keyC (P : Program) (kt : TypeId) : Option Nat :=
 match P.underlying kt with
 | some .string => some 0
 | some (.int q) => some (kcode q)
 | _ => none
/-- The zero value of a map's values, wrapped where it has several cells (16). -/
def zeroMap (P : Program) (t : TypeId) : Option (Nat × Value) :=
 match P.info? t with
 | some i => match i.zero with
  | some (.agg cs) => if cs.toList.all Value.oneCell' then some (16, .iface 0 (.agg cs)) else none
  | some v => if v.oneCell' then some (0, v) else none
  | none => none
 | none => none
def zeroAdd (P : Program) (t : TypeId) : Nat := match zeroMap P t with | some p => p.1 | none => 0
def mapOf (P : Program) (t : TypeId) : Option (Nat × TypeId) :=
 match P.underlying t with
 | some (.map kt et) => (keyC P kt).map fun c => (c + zeroAdd P et, et)
 | _ => none
def isByteT (P : Program) (t : TypeId) : Bool := match P.underlying t with | some (.int .u8) => true | _ => false
/-- A string's bytes behind bytes. -/
def isU8 (i : TypeInfo) : Bool := match i.zero with
 | some (.int .u8 n) => decide (n = 0 ∧ i.size = 1 ∧ i.bytes = 1)
 | _ => false
def isStrT (P : Program) (t : TypeId) : Bool := match P.underlying t with | some .string => true | _ => false
def appStrOf (P : Program) (e t' : TypeId) (i : TypeInfo) (x : Opd) : Opd → Option Ins
 | .t n => if isU8 i = true ∧ isStrT P t' = true then some (.append e 1 1 x (.b n)) else none
 | _ => none
/-- A piece of a string. -/
def ssubOf (x : Opd) (lo hi : Option Operand) : Option Ins :=
 match lo, hi with
 | none, none => some (.ssub x none none)
 | some l, none => (opd l).map fun l => .ssub x (some l) none
 | none, some h => (opd h).map fun h => .ssub x none (some h)
 | some l, some h => match opd l, opd h with
  | some l, some h => some (.ssub x (some l) (some h))
  | _, _ => none
/-- The address of an array's element. -/
def aadrOf (P : Program) (t : TypeId) (x i : Opd) : Option Ins :=
 match P.underlying t with
 | some (.array n e) => (P.info? e).map fun inf => .aadr n inf.size x i
 | _ => none
def compileIns (P : Program) (o : Oper) : Option Ins :=
 match o.op with
 | .move x => (opd x).map .mv
 | .assign x => (opd x).map .mv
 | .pick c a b => match opd c, opd a, opd b with
  | some c, some a, some b => some (.pick c a b)
  | _, _, _ => none
 | .alloc t => (zeroOf P t).map (if isBld P t = true then .bld else .alloc)
 | .box _ x => (opd x).map .box
 | .build t parts => match zeroOf P t, placesOf P t, parts.toList.mapM (fun p => match fieldOf P t p.1, opd p.2 with
   | some f, some x => (P.info? f.type).map fun i => (f.offset, i.size, x)
   | _, _ => none) with
  | some z, some _, some ps => some (.build z ps)
  | _, _, _ => none
 | .buildSlice t len parts => match elemOfSlice P t, parts.toList.mapM (fun p => opd p.2) with
  | some (_, i), some ps => if parts.toList.map (·.1) = List.range len ∧ 0 < i.size ∧ len * i.size ≤ 16777216 ∧ 0 < len ∧ (i.zero.map (·.cells.size)) = some i.size then some (.bslice i.size len ps) else none
  | _, _ => none
 | .load t x => match tyOf P t, opd x with
  | some (ag, n), some x => some (.load ag n x)
  | _, _ => none
 | .store t x v => match tyOf P t, opd x, opd v with
  | some (_, n), some x, some v => some (.store n x v)
  | _, _, _ => none
 | .nilCheck x => (opd x).map .nilchk
 | .binOp op t x y _ => match opd x, opd y with
  | some x, some y => match eqIns P op t y with
   | some (neg, agg, ks) => some (.eqs neg agg ks x y)
   | none => some (.bin op x y)
  | _, _ => none
 | .unOp op _ x => (opd x).map (.un op)
 | .convert src dst x => match P.underlying src, P.underlying dst, opd x with
  | some _, some (.int k), some x => some (.conv k x)
  | some (.int _), some .string, some x => some (.chr x)
  | some (.slice e), some .string, some (.t n) => if isByteT P e = true then some (.ssub (.s n) none none) else none
  | _, _, _ => none
 | .makeFunc (.func f) first caps => match caps.toList.mapM opd with
  | some cs => if first.size = 0 ∧ f < 1000000 then some (.mkfn f cs) else (match first.toList.mapM opd with
   | some fs => if caps.size = 0 then some (.mkfn (f + 1000000) fs) else none
   | none => none)
  | none => none
 | .slice t x lo hi none => match elemOfSlice P t, opd x with
  | some (_, i), some x => match lo, hi with
   | none, none => some (.slc i.size x none none)
   | some l, none => (opd l).map fun l => .slc i.size x (some l) none
   | none, some h => (opd h).map fun h => .slc i.size x none (some h)
   | some l, some h => match opd l, opd h with
    | some l, some h => some (.slc i.size x (some l) (some h))
    | _, _ => none
  | none, some x => match P.underlying t with
   | some .string => ssubOf x lo hi
   | _ => none
  | _, _ => none
 | .fieldAddr t x k => match fieldOf P t k, opd x with
  | some f, some x => match P.info? f.type with
   | some i => if i.size = 0 then none else some (.fadr f.offset x)
   | none => none
  | _, _ => none
 | .field t x k => match fieldOf P t k, opd x with
  | some f, some x => match tyOf P f.type with
   | some (ag, n) => some (.fld f.offset ag n x)
   | none => none
  | _, _ => none
 | .indexAddr t x i => match elemOfSlice P t, opd x, opd i with
  | some (_, inf), some x, some i => some (.iadr inf.size x i)
  | none, some x, some i => aadrOf P t x i
  | _, _, _ => none
 | .index t x i => match P.underlying t, opd x, opd i with
  | some .string, some x, some i => some (.idx x i)
  | _, _, _ => none
 | .extract x i => (opd x).map fun x => .extr x i
 | .call { callee := .builtin .len, args, argTypes } => match args.toList, (argTypes[0]?).bind P.underlying with
  | [x], some (.slice _) => (opd x).map .len
  | [x], some .string => (opd x).map .slen
  | _, _ => none
 | .call { callee := .builtin .max, args, .. } => match args.toList with
  | [x, y] => match opd x, opd y with
   | some x, some y => some (.mnx true x y)
   | _, _ => none
  | _ => none
 | .call { callee := .builtin .min, args, .. } => match args.toList with
  | [x, y] => match opd x, opd y with
   | some x, some y => some (.mnx false x y)
   | _, _ => none
  | _ => none
 | .call { callee := .builtin .append, args, argTypes } => match args.toList, argTypes.toList with
  | [x, y], [t, t'] => match elemOfSlice P t, opd x, opd y with
   | some (e, i), some x, some y => if t = t' ∧ 0 < i.size ∧ (i.zero.map (·.cells.size)) = some i.size then some (.append e i.size i.bytes x y) else appStrOf P e t' i x y
   | _, _, _ => none
  | _, _ => none
 | .call { callee := .value f, args, .. } => match opd f, args.toList.mapM opd with
  | some f, some as => some (if ptrCall P f then .callx f as else .call f as)
  | _, _ => none
 | .call { callee := .builtin .clear, args, argTypes } => match args.toList, argTypes.toList with
  | [x], [t] => match elemOfSlice P t, opd x with
   | some (e, i), some x => match zeroOf P e with
    | some z => if z.length = i.size then some (.clr e i.size z x) else none
    | none => none
   | _, _ => none
  | _, _ => none
 | .makeSlice t l c => match elemOfSlice P t, opd l, opd c with
  | some (e, i), some l, some c => match zeroOf P e with
   | some z => if z.length = i.size then some (.mkr e i.size i.bytes z l c) else none
   | none => none
  | _, _, _ => none
 | .makeMap t none => (mapOf P t).map fun p => .mkm p.1
 | .makeMap t (some (.const (.int _ _))) => (mapOf P t).map fun p => .mkm p.1
 | .mapUpdate t m k v => match mapOf P t, opd m, opd k, opd v with
  | some p, some m, some k, some v => some (.mup p.1 m k v)
  | _, _, _, _ => none
 | .insert t m k v => match mapOf P t, opd m, opd k, opd v with
  | some p, some m, some k, some v => some (.mup p.1 m k v)
  | _, _, _, _ => none
 | .lookup t m k ok => match mapOf P t, opd m, opd k with
  | some p, some m, some k => match zeroMap P p.2 with
   | some z => some (.mlk p.1 z.2 ok (match elemOfSlice P p.2 with | some (_, i) => i.size | none => 0) m k)
   | none => none
  | _, _, _ => none
 | .call { callee := .builtin .delete, args, argTypes } => match args.toList, argTypes.toList with
  | [m, k], [t, _] => match mapOf P t, opd m, opd k with
   | some p, some m, some k => some (.mdl p.1 m k)
   | _, _, _ => none
  | _, _ => none
 | _ => none
theorem wp_value {P : Program} {o : Oper} {a : Act} {w w' : World} {K : Act → World → Prop} {Q : Exit → Act → World → Prop} {v : Value} (h : (execOp a.eval o).run P w = .ok (.value v) w') (hK : K (a.put o.dst v) w') : o.wp P a w K Q := by
 unfold Oper.wp; rw [h]; exact hK
theorem wp_skip_ {P : Program} {o : Oper} {a : Act} {w w' : World} {K : Act → World → Prop} {Q : Exit → Act → World → Prop} (h : (execOp a.eval o).run P w = .ok .skip w') (hK : K (a.put o.dst undef) w') : o.wp P a w K Q := by
 unfold Oper.wp; rw [h]; exact hK
section
variable {P : Program} {w0 w w' : World} {okA : Nat → Prop} {ext : Ext} {N : Nat} {s : AS} {a : Act} {E : Env} {o : Oper} {K : Act → World → Prop} {Q : Exit → Act → World → Prop}
theorem ofV_rel {v : Value} (h : okConst v = true) : VRel w (okE w0 okA E) w0.heap.size E (ofV v) v := by
 cases v with
 | agg cs =>
  have h1 : CsRel w (okE w0 okA E) w0.heap.size E (cs.toList.map .g) cs.toList := CsRel.gs _ (fun u hu => (List.all_eq_true.1 h) u hu)
  simpa [ofV] using VRel.ag h1
 | tuple vs => simp [okConst] at h
 | _ => exact .one ⟨rfl, rfl⟩
theorem ev_rel (h : St w0 okA ext N s a w E) {x : Operand} {y : Opd} (hx : opd x = some y) : VRel w (okE w0 okA E) w0.heap.size E (s.ev y) (a.eval x) := by
 cases x with
 | tmp t => simp only [opd, Option.some.injEq] at hx; subst hx; exact h.tm t
 | const v =>
  simp only [opd] at hx
  split at hx
  ·rename_i hv; simp only [Option.some.injEq] at hx; subst hx; exact ofV_rel hv
  ·cases hx
 | func f => simp only [opd, Option.some.injEq] at hx; subst hx; exact .one ⟨[], rfl, rfl, fun i c u h => by simp at h⟩
 | global g => simp [opd] at hx
/-- What a step's answer asks and gives. -/
def SGood : SRes → (AS → Prop) → Prop
 | .ok s, T => T s
 | @SRes.need p _ s, T => p ∧ T s
 | .bad, _ => False
/-- Every state that stands for s' serves. -/
def Serves (w0 : World) (okA : Nat → Prop) (ext : Ext) (N : Nat) (K : Act → World → Prop) (s' : AS) : Prop := ∀ a' w' E', St w0 okA ext N s' a' w' E' → K a' w'
theorem one_int {x : Val} {v : Value} {k : IntKind} {n : Int} {ok : Nat → Prop} {base : Nat} (h : VRel w ok base E x v) (hx : x = .one (.g (.int k n))) : v = .int k n := by
 subst hx; cases h with | one h1 => exact h1.1
theorem one_g {x : Val} {v u : Value} {ok : Nat → Prop} {base : Nat} (h : VRel w ok base E x v) (hx : x = .one (.g u)) : v = u := by
 subst hx; cases h with | one h1 => exact h1.1
theorem one_c {x : Val} {v : Value} {c : Cel} {ok : Nat → Prop} {base : Nat} (h : VRel w ok base E x v) (hx : x = .one c) : CRel w ok base E c v := by
 subst hx; cases h with | one h1 => exact h1
theorem ag_c {x : Val} {v : Value} {cs : List Cel} {ok : Nat → Prop} {base : Nat} (h : VRel w ok base E x v) (hx : x = .ag cs) : ∃ us, v = .agg us.toArray ∧ CsRel w ok base E cs us := by
 subst hx; cases h with | ag h1 => exact ⟨_, rfl, h1⟩
theorem tu_c {x : Val} {v : Value} {vs : List Val} {ok : Nat → Prop} {base : Nat} (h : VRel w ok base E x v) (hx : x = .tu vs) : ∃ us : List Value, v = .tuple us.toArray ∧ vs.length = us.length ∧ ∀ (i : Nat) (x : Val) (u : Value), vs[i]? = some x → us[i]? = some u → VRel w ok base E x u := by
 subst hx; cases h with | tu h1 h2 => exact ⟨_, rfl, h1, h2⟩
theorem s_mv (h : St w0 okA ext N s a w E) {x : Operand} {y : Opd} (hx : opd x = some y) (ho : o.op = .move x ∨ o.op = .assign x) (hd : ∀ k, o.dst = some k → k < N)
  (hK : SGood (estep o.dst (.mv y) s) (Serves w0 okA ext N K)) : o.wp P a w K Q := by
 refine wp_value (v := a.eval x) (w' := w) ?_ (hK _ _ E (h.put (ev_rel h hx) hd))
 rcases ho with ho | ho <;> simp [execOp, ho]
theorem zero_of {t : TypeId} {z : List Value} (hz : zeroOf P t = some z) : ∃ i v, P.info? t = some i ∧ i.zero = some v ∧ v.cells.toList = z ∧ ∀ u ∈ z, u.oneCell' = true := by
 unfold zeroOf at hz
 split at hz
 ·rename_i i hi
  split at hz
  ·rename_i v hv
   split at hz
   ·rename_i hall
    simp only [Option.some.injEq] at hz
    exact ⟨i, v, hi, hv, hz, fun u hu => (List.all_eq_true.1 hall) u (hz ▸ hu)⟩
   ·cases hz
  ·cases hz
 ·cases hz
theorem s_alloc (h : St w0 okA ext N s a w E) {t : TypeId} {z : List Value} (hz : zeroOf P t = some z) (ho : o.op = .alloc t) (hd : ∀ k, o.dst = some k → k < N)
  (hK : SGood (estep o.dst (.alloc z) s) (Serves w0 okA ext N K)) : o.wp P a w K Q := by
 obtain ⟨i, v, hi, hv, rfl, h1⟩ := zero_of hz
 cases hdst : o.dst with
 | none => rw [hdst] at hK; exact hK.elim
 | some k =>
  rw [hdst] at hK
  simp only [estep] at hK
  split at hK
  ·rename_i hbx
   split at hK
   ·exact hK.elim
   rename_i hk0
   have hs := h.box (ty := t) hbx hk0 (hd k hdst) (CsRel.gs (w := w) (ok := okE w0 okA E) (base := w0.heap.size) (E := E) v.cells.toList h1)
   refine wp_value (v := .pointer (some ⟨w.heap.size, 0, none⟩)) ?_ (hK _ _ _ (by rw [hdst]; exact hs))
   simp [execOp, ho, Instr.alloc, zeroValue, typeInfo, hi, hv, newVar, newRow, newObj, Sem.run]
  ·exact hK.elim
theorem s_bld [hT : Tabs P w0 okA ext] (h : St w0 okA ext N s a w E) {t : TypeId} {z : List Value} (hz : zeroOf P t = some z) (hb : isBld P t = true) (ho : o.op = .alloc t) (hd : ∀ k, o.dst = some k → k < N)
  (hK : SGood (estep o.dst (.bld z) s) (Serves w0 okA ext N K)) : o.wp P a w K Q := by
 obtain ⟨i, v, hi, hv, rfl, h1⟩ := zero_of hz
 cases hdst : o.dst with
 | none => rw [hdst] at hK; exact hK.elim
 | some k =>
  rw [hdst] at hK
  simp only [estep] at hK
  split at hK
  ·rename_i hbx
   split at hK
   ·rename_i hk0
    have hs := h.bld (ty := t) hbx ⟨by omega, by omega⟩ (hd k hdst) (by rw [hT.bt]; exact hb) (CsRel.gs (w := w) (ok := okE w0 okA E) (base := w0.heap.size) (E := E) v.cells.toList h1)
    refine wp_value (v := .pointer (some ⟨w.heap.size, 0, none⟩)) ?_ (hK _ _ _ (by rw [hdst]; exact hs))
    simp [execOp, ho, Instr.alloc, zeroValue, typeInfo, hi, hv, newVar, newRow, newObj, Sem.run]
   ·exact hK.elim
  ·exact hK.elim
theorem s_box (h : St w0 okA ext N s a w E) {t : TypeId} {x : Operand} {y : Opd} (hx : opd x = some y) (ho : o.op = .box t x) (hd : ∀ k, o.dst = some k → k < N)
  (hK : SGood (estep o.dst (.box y) s) (Serves w0 okA ext N K)) : o.wp P a w K Q := by
 cases hdst : o.dst with
 | none => rw [hdst] at hK; exact hK.elim
 | some k =>
  rw [hdst] at hK
  simp only [estep] at hK
  split at hK
  ·rename_i k' cs hk' hcs
   injection hk' with hk'; subst hk'
   split at hK
   ·rename_i hbx
    split at hK
    ·exact hK.elim
    rename_i hk0
    have hs := h.box (ty := t) hbx hk0 (hd k hdst) ((ev_rel h hx).cells hcs)
    refine wp_value (v := .pointer (some ⟨w.heap.size, 0, none⟩)) ?_ (hK _ _ _ (by rw [hdst]; exact hs))
    simp [execOp, ho, Instr.box, newVar, newRow, newObj, Sem.run]
   ·exact hK.elim
  ·exact hK.elim
theorem s_un (h : St w0 okA ext N s a w E) {op : UnOp} {t : TypeId} {x : Operand} {y : Opd} (hx : opd x = some y) (ho : o.op = .unOp op t x) (hd : ∀ k, o.dst = some k → k < N)
  (hK : SGood (estep o.dst (.un op y) s) (Serves w0 okA ext N K)) : o.wp P a w K Q := by
 simp only [estep] at hK
 have hr := ev_rel h hx
 split at hK
 ·rename_i b hv
  refine wp_value (v := .bool (!b)) (w' := w) ?_ (hK _ _ E (h.put (.one ⟨rfl, rfl⟩) hd))
  simp [execOp, ho, one_g hr hv, Op.unary]
 ·rename_i k n hv
  refine wp_value (v := .int k (k.wrap (0 - n))) (w' := w) ?_ (hK _ _ E (h.put (.one ⟨rfl, rfl⟩) hd))
  simp [execOp, ho, one_g hr hv, Op.unary, Op.intArith]
 ·exact hK.elim
theorem s_conv (h : St w0 okA ext N s a w E) {src dst : TypeId} {k : IntKind} {d : TypeDesc} {x : Operand} {y : Opd} (hx : opd x = some y) (hs : P.underlying src = some d) (hdst : P.underlying dst = some (.int k))
  (ho : o.op = .convert src dst x) (hd : ∀ k, o.dst = some k → k < N) (hK : SGood (estep o.dst (.conv k y) s) (Serves w0 okA ext N K)) : o.wp P a w K Q := by
 simp only [estep] at hK
 have hr := ev_rel h hx
 split at hK
 ·rename_i j n hv
  refine wp_value (v := .int k (k.wrap n)) (w' := w) ?_ (hK _ _ E (h.put (.one ⟨rfl, rfl⟩) hd))
  simp [execOp, ho, one_g hr hv, convert, run_underlying hs, run_underlying hdst, Conv.intToInt]
 ·exact hK.elim
theorem s_chr (h : St w0 okA ext N s a w E) {src dst : TypeId} {k : IntKind} {x : Operand} {y : Opd} (hx : opd x = some y) (hs : P.underlying src = some (.int k)) (hdst : P.underlying dst = some .string)
  (ho : o.op = .convert src dst x) (hd : ∀ k, o.dst = some k → k < N) (hK : SGood (estep o.dst (.chr y) s) (Serves w0 okA ext N K)) : o.wp P a w K Q := by
 simp only [estep] at hK
 have hr := ev_rel h hx
 split at hK
 ·rename_i j n hv
  refine wp_value (v := .string (Utf8.encode n)) (w' := w) ?_ (hK _ _ E (h.put (.one ⟨rfl, rfl⟩) hd))
  simp [execOp, ho, one_g hr hv, convert, run_underlying hs, run_underlying hdst, Conv.intToString]
 ·exact hK.elim
theorem isByteT_of {t : TypeId} (h : isByteT P t = true) : P.underlying t = some (.int .u8) := by
 unfold isByteT at h
 split at h
 ·assumption
 ·cases h
theorem byteC_is {e : List Cel} {b : UInt8} (h : byteC e = some b) : e = [.g (.int .u8 (b.toNat : Int))] := by
 unfold byteC at h
 split at h
 ·rename_i n
  split at h
  ·rename_i hn
   simp only [Option.some.injEq] at h
   subst h
   have : ((UInt8.ofNat n.toNat).toNat : Int) = n := by
    rw [UInt8.toNat_ofNat']; omega
   rw [this]
  ·cases h
 ·cases h
theorem bytesC_is : ∀ {es : List (List Cel)} {l : List UInt8}, bytesC es = some l → es = l.map fun b => [.g (.int .u8 (b.toNat : Int))]
 | [], l, h => by simp only [bytesC, Option.some.injEq] at h; subst h; rfl
 | e :: es, l, h => by
  simp only [bytesC] at h
  split at h
  ·rename_i b l' h1 h2
   simp only [Option.some.injEq] at h
   subst h
   rw [byteC_is h1, bytesC_is h2]; rfl
  ·cases h
theorem s_str (h : St w0 okA ext N s a w E) {src dst e : TypeId} {x : Operand} {n : Nat} (hx : opd x = some (.t n)) (hs : P.underlying src = some (.slice e)) (he : P.underlying e = some (.int .u8)) (hdst : P.underlying dst = some .string)
  (ho : o.op = .convert src dst x) (hd : ∀ k, o.dst = some k → k < N) (hK : SGood (estep o.dst (.ssub (.s n) none none) s) (Serves w0 okA ext N K)) : o.wp P a w K Q := by
 simp only [estep, Option.map_none] at hK
 have hr : VRel w (okE w0 okA E) w0.heap.size E (s.tm n) (a.eval x) := ev_rel h hx
 split at hK
 ·rename_i b hv _ _
  simp only [AS.ev] at hv
  unfold strS at hv
  split at hv
  ·rename_i fr e0 es hv0
   split at hv
   ·rename_i l hl
    simp only [Val.one.injEq, Cel.g.injEq, Value.string.injEq] at hv
    subst hv
    have hes := bytesC_is hl
    have hD : ∃ ok', DRel w ok' (.sl fr 1 (e0 :: es)) (a.eval x) := by
     have h1 := one_c hr hv0
     cases fr with
     | false => exact ⟨_, h1⟩
     | true => exact ⟨_, h1⟩
    obtain ⟨ok', hD⟩ := hD
    rw [hes] at hD
    have hrun : (convert src dst (a.eval x)).run P w = .ok (.string ⟨l.toArray⟩) w := by
     generalize hv1 : a.eval x = v at hD
     generalize hc : Cel.sl fr 1 (l.map fun b => [Cel.g (.int .u8 (b.toNat : Int))]) = c at hD
     cases hD with
     | g _ => cases hc
     | any _ => cases hc
     | fm => cases hc
     | ep => cases hc
     | nil =>
      injection hc with _ _ hc
      rw [← hes] at hc; cases hc
     | @sl fr' z' es' b off n c us hn hnc hb hlt hz hcell hrel =>
      injection hc with _ hz' hc
      subst hc
      subst hz'
      have hn' : n = l.length := by rw [hn]; simp
      rw [hn']
      refine run_convert_bytes_back w src dst e ⟨b, off, none⟩ c l hs he hdst fun j hj => ?_
      have h5 : (l.map fun b => [Cel.g (.int .u8 (b.toNat : Int))])[j]? = some [Cel.g (.int .u8 (l[j].toNat : Int))] := by
       rw [List.getElem?_map, List.getElem?_eq_getElem hj]; rfl
      have h6 := hcell j _ 0 _ h5 rfl
      have h7 := hrel j _ 0 _ h5 rfl
      rw [Nat.mul_one, Nat.add_zero] at h6
      rw [add_none]
      rw [h6]
      generalize us j 0 = uu at h7
      cases h7; rfl
    exact wp_value (v := .string ⟨l.toArray⟩) (w' := w) (by simp [execOp, ho, hrun]) (hK _ _ E (h.put (.one ⟨rfl, rfl⟩) hd))
   ·cases hv
  ·cases hv
 all_goals first | (exact (hK : False).elim) | contradiction | (exfalso; simp_all; done)
theorem s_extr (h : St w0 okA ext N s a w E) {x : Operand} {y : Opd} {i : Nat} (hx : opd x = some y) (ho : o.op = .extract x i) (hd : ∀ k, o.dst = some k → k < N)
  (hK : SGood (estep o.dst (.extr y i) s) (Serves w0 okA ext N K)) : o.wp P a w K Q := by
 simp only [estep] at hK
 have hr := ev_rel h hx
 split at hK
 ·rename_i vs hv
  split at hK
  ·rename_i v hvi
   obtain ⟨us, hu, hl, hc⟩ := tu_c hr hv
   have hlt : i < us.length := by have := (List.getElem?_eq_some_iff.1 hvi).1; omega
   refine wp_value (v := us[i]) (w' := w) ?_ (hK _ _ E (h.put (hc i v _ hvi (List.getElem?_eq_getElem hlt)) hd))
   simp [execOp, ho, hu, Instr.extract, hlt]
  ·exact hK.elim
 ·exact hK.elim
theorem s_mkfn (h : St w0 okA ext N s a w E) {f g : FuncId} {first caps vars : Array Operand} {cs : List Opd} (hx : vars.toList.mapM opd = some cs) (hf : (first.size = 0 ∧ vars = caps ∧ f < 1000000 ∧ g = f) ∨ (caps.size = 0 ∧ vars = first ∧ g = f + 1000000)) (ho : o.op = .makeFunc (.func f) first caps) (hd : ∀ k, o.dst = some k → k < N)
  (hK : SGood (estep o.dst (.mkfn g cs) s) (Serves w0 okA ext N K)) : o.wp P a w K Q := by
 simp only [estep] at hK
 split at hK
 ·rename_i ds hds
  have hlist : ∀ (xs : List Operand) (cs : List Opd) (ds : List Cel), xs.mapM opd = some cs → cs.mapM (fun p => match s.ev p with | .one (.bx k off) => some (Cel.bx k off) | .one (.g v) => some (Cel.g v) | .one (.ep cs) => some (Cel.ep cs) | _ => none) = some ds →
    ds.length = (xs.map a.eval).length ∧ ∀ (i : Nat) (c : Cel) (u : Value), ds[i]? = some c → (xs.map a.eval)[i]? = some u → CRel0 w (okE w0 okA E) w0.heap.size E c u := by
   intro xs
   induction xs with
   | nil => intro cs ds h1 h2; simp at h1; subst h1; simp at h2; subst h2; exact ⟨rfl, fun i c u h => by simp at h⟩
   | cons x xs ih =>
    intro cs ds h1 h2
    simp only [List.mapM_cons, Option.bind_eq_bind, Option.bind_eq_some_iff, Option.pure_def, Option.some.injEq] at h1
    obtain ⟨y, hy, ys, hys, rfl⟩ := h1
    simp only [List.mapM_cons, Option.bind_eq_bind, Option.bind_eq_some_iff, Option.pure_def, Option.some.injEq] at h2
    obtain ⟨e, he, es, hes, rfl⟩ := h2
    obtain ⟨hl, hr⟩ := ih ys es hys hes
    refine ⟨by simp at hl ⊢; exact hl, fun i c u h3 h4 => ?_⟩
    match i with
    | 0 =>
     simp at h3 h4; subst h3; subst h4
     have hev := ev_rel h hy
     split at he
     ·rename_i k off hv; simp only [Option.some.injEq] at he; subst he; exact one_c hev hv
     ·rename_i v hv; simp only [Option.some.injEq] at he; subst he; exact one_c hev hv
     ·rename_i v hv; simp only [Option.some.injEq] at he; subst he; exact one_c hev hv
     ·cases he
    | i + 1 => simp at h3 h4; exact hr i c u h3 (by simpa using h4)
  obtain ⟨h1, h2⟩ := hlist _ _ _ hx hds
  have h9 : ∀ ys : Array Operand, ys.map a.eval = (ys.toList.map a.eval).toArray := fun ys => by apply Array.ext'; simp
  have h0 : ∀ ys : Array Operand, ys.size = 0 → ys.map a.eval = #[] := fun ys hy => by rw [← Array.size_eq_zero_iff]; simpa using hy
  rcases hf with ⟨hf, rfl, hlt, rfl⟩ | ⟨hf, rfl, rfl⟩
  ·refine wp_value (v := .func (.func g) #[] (vars.toList.map a.eval).toArray) (w' := w) ?_ (hK _ _ E (h.put (.one (by rw [fnC, if_pos hlt]; exact ⟨_, rfl, h1, h2⟩)) hd))
   simp only [execOp, ho, Instr.makeFunc, h0 _ hf, h9]; simp
  ·refine wp_value (v := .func (.func f) (vars.toList.map a.eval).toArray #[]) (w' := w) ?_ (hK _ _ E (h.put (.one (by rw [fnC, if_neg (Nat.not_lt.2 (Nat.le_add_left _ _)), Nat.add_sub_cancel]; exact ⟨_, rfl, h1, h2⟩)) hd))
   simp only [execOp, ho, Instr.makeFunc, h0 _ hf, h9]; simp
 ·exact hK.elim
theorem s_bin (h : St w0 okA ext N s a w E) {op : BinOp} {t t' : TypeId} {x x' : Operand} {y y' : Opd} (hx : opd x = some y) (hx' : opd x' = some y') (ho : o.op = .binOp op t x x' t') (hd : ∀ k, o.dst = some k → k < N)
  (hK : SGood (estep o.dst (.bin op y y') s) (Serves w0 okA ext N K)) : o.wp P a w K Q := by
 simp only [estep, binS] at hK
 have hr := ev_rel h hx
 have hr' := ev_rel h hx'
 split at hK
 ·rename_i k m k' m' hv hv'
  have e1 := one_g hr hv
  have e2 := one_g hr' hv'
  cases op <;> simp only [] at hK <;> first
   | exact hK.elim
   | (split at hK; (next hk => subst hk; first | (refine wp_value (w' := w) ?_ (hK _ _ E (h.put (.one ⟨rfl, rfl⟩) hd)); simp [execOp, ho, e1, e2, eqGuard, binOp, Op.intArith, Op.intCmp, intBits_and, intBits_or, intBits_xor]; done) | (obtain ⟨hne, hK⟩ := hK; refine wp_value (w' := w) ?_ (hK _ _ E (h.put (.one ⟨rfl, rfl⟩) hd)); simp [execOp, ho, e1, e2, eqGuard, binOp, Op.intDiv, hne]; done)); exact hK.elim)
   | (obtain ⟨hne, hK⟩ := hK; refine wp_value (w' := w) ?_ (hK _ _ E (h.put (.one ⟨rfl, rfl⟩) hd)); simp [execOp, ho, e1, e2, eqGuard, binOp, Op.shift, Int.not_lt.2 hne]; done)
 ·rename_i m m' hv hv'
  have e1 := one_g hr hv
  have e2 := one_g hr' hv'
  cases op <;> simp only [] at hK <;> first
   | exact hK.elim
   | (refine wp_value (w' := w) ?_ (hK _ _ E (h.put (.one ⟨rfl, rfl⟩) hd)); simp [execOp, ho, e1, e2, eqGuard, binOp, Op.stringOp]; done)
   | (obtain ⟨hne, hK⟩ := hK; refine wp_value (w' := w) ?_ (hK _ _ E (h.put (.one ⟨rfl, rfl⟩) hd)); have h9 : ¬ (((m.size + m'.size : Nat) : Int) > IntKind.i64.max) := (by show ¬ _ > (9223372036854775807 : Int); omega); simp only [execOp, ho, e1, e2, eqGuard, binOp, Op.stringOp, if_neg h9]; first | done | rfl | simp)
 ·exact hK.elim
theorem s_nilchk (h : St w0 okA ext N s a w E) {x : Operand} {y : Opd} (hx : opd x = some y) (ho : o.op = .nilCheck x) (hd : ∀ k, o.dst = some k → k < N)
  (hK : SGood (estep o.dst (.nilchk y) s) (Serves w0 okA ext N K)) : o.wp P a w K Q := by
 simp only [estep] at hK
 have hr := ev_rel h hx
 split at hK
 ·rename_i k off hv
  obtain ⟨g, hg, hp⟩ := one_c hr hv
  refine wp_value (v := a.eval x) (w' := w) ?_ (hK _ _ E (h.put (hv ▸ hr) hd))
  simp [execOp, ho, hp]
 ·rename_i cs hv
  obtain ⟨b, off, us, hp, _⟩ := one_c hr hv
  refine wp_value (v := a.eval x) (w' := w) ?_ (hK _ _ E (h.put (hv ▸ hr) hd))
  simp [execOp, ho, hp]
 ·rename_i k ver i off hv
  split at hK
  ·rename_i r hs
   split at hK
   ·rename_i hver
    obtain ⟨_, ver', z, u, hm, _, hu, hzp⟩ := one_c hr hv
    obtain ⟨_, _, u', _, hm', _⟩ := h.rwS hs (h.zpos hs hm hzp)
    rw [hm] at hm'
    simp only [Option.some.injEq, Prod.mk.injEq] at hm'
    obtain ⟨rfl, rfl, rfl⟩ := hm'
    obtain ⟨g, n, c, _, hp⟩ := hu hver
    refine wp_value (v := a.eval x) (w' := w) ?_ (hK _ _ E (h.put (hv ▸ hr) hd))
    simp [execOp, ho, hp]
   ·exact hK.elim
  ·exact hK.elim
 ·exact hK.elim
theorem s_len (h : St w0 okA ext N s a w E) {x : Operand} {y : Opd} {ts : Array TypeId} {t e : TypeId} (hx : opd x = some y) (hts : ts[0]? = some t) (hu : P.underlying t = some (.slice e))
  (ho : o.op = .call { callee := .builtin .len, args := #[x], argTypes := ts }) (hd : ∀ k, o.dst = some k → k < N) (hK : SGood (estep o.dst (.len y) s) (Serves w0 okA ext N K)) : o.wp P a w K Q := by
 simp only [estep] at hK
 have hr := ev_rel h hx
 have hsl : ∀ (b : Option Addr) (n c : Nat), a.eval x = .slice b n c → (execOp a.eval o).run P w = .ok (.value (.int .i64 n)) w := fun b n c hv => by
  simp [execOp, ho, resolve, invoke, builtin, Builtin.len_, hts, hv, run_underlying hu, goInt]
 split at hK
 ·rename_i fr z es hv
  have h1 : DRel w (if fr then (fun b => w0.heap.size ≤ b ∧ okE w0 okA E b) else okE w0 okA E) (.sl fr z es) (a.eval x) := one_c hr hv
  have h2 : ∃ b c, a.eval x = .slice b es.length c := by
   generalize a.eval x = v at h1
   cases h1 with
   | nil => exact ⟨_, _, rfl⟩
   | sl us hn => subst hn; exact ⟨_, _, rfl⟩
  obtain ⟨b, c, h2⟩ := h2
  exact wp_value (hsl b _ c h2) (hK _ _ E (h.put (.one ⟨rfl, rfl⟩) hd))
 ·rename_i b n c hv
  exact wp_value (hsl b n c (one_g hr hv)) (hK _ _ E (h.put (.one ⟨rfl, rfl⟩) hd))
 ·rename_i k ver hv
  split at hK
  ·rename_i r hs
   split at hK
   ·rename_i hver
    obtain ⟨_, ver', z, u, hm, _, hu, hzp⟩ := one_c hr hv
    obtain ⟨_, _, u', _, hm', hown, _⟩ := h.rwS hs (h.zpos hs hm hzp)
    rw [hm] at hm'
    simp only [Option.some.injEq, Prod.mk.injEq] at hm'
    obtain ⟨rfl, rfl, rfl⟩ := hm'
    have h2 : ∃ b c, a.eval x = .slice b r.es.length c := by
     rw [hu hver]
     rcases hown.2 with ⟨rfl, h0⟩ | ⟨g, cap, cur, rfl, _⟩
     ·rw [h0]; exact ⟨_, _, rfl⟩
     ·exact ⟨_, _, rfl⟩
    obtain ⟨b, c, h2⟩ := h2
    exact wp_value (hsl b _ c h2) (hK _ _ E (h.put (.one ⟨rfl, rfl⟩) hd))
   ·exact hK.elim
  ·exact hK.elim
 ·rename_i k ver lo hv
  split at hK
  ·rename_i r hs
   split at hK
   ·rename_i hver
    obtain ⟨_, ver', z, u, hm, _, hu, hzp⟩ := one_c hr hv
    obtain ⟨_, _, u', _, hm', hown, _⟩ := h.rwS hs (h.zpos hs hm hzp)
    rw [hm] at hm'
    simp only [Option.some.injEq, Prod.mk.injEq] at hm'
    obtain ⟨rfl, rfl, rfl⟩ := hm'
    obtain ⟨g, m, c, A, hu1, hlo, hv1, hA⟩ := hu hver
    have hm3 : m = r.es.length := by
     rcases hown.2 with ⟨h8, h9⟩ | ⟨g', cap, cur, hu2, _⟩
     ·rw [hu1] at h8; cases h8
     ·rw [hu1] at hu2; injection hu2
    have h3 : ((m - lo : Nat) : Int) = (r.es.length : Int) - lo := by omega
    have h4 := hsl _ _ _ hv1
    rw [h3] at h4
    exact wp_value h4 (hK _ _ E (h.put (.one ⟨rfl, rfl⟩) hd))
   ·exact hK.elim
  ·exact hK.elim
 ·exact hK.elim
theorem s_slen (h : St w0 okA ext N s a w E) {x : Operand} {y : Opd} {ts : Array TypeId} {t : TypeId} (hx : opd x = some y) (hts : ts[0]? = some t) (hu : P.underlying t = some .string)
  (ho : o.op = .call { callee := .builtin .len, args := #[x], argTypes := ts }) (hd : ∀ k, o.dst = some k → k < N) (hK : SGood (estep o.dst (.slen y) s) (Serves w0 okA ext N K)) : o.wp P a w K Q := by
 simp only [estep] at hK
 have hr := ev_rel h hx
 split at hK
 ·rename_i b hv
  refine wp_value (v := .int .i64 b.size) (w' := w) ?_ (hK _ _ E (h.put (.one ⟨rfl, rfl⟩) hd))
  simp [execOp, ho, resolve, invoke, builtin, Builtin.len_, hts, one_g hr hv, run_underlying hu, goInt]
 ·exact hK.elim
theorem s_mnx (h : St w0 okA ext N s a w E) {mx : Bool} {x x' : Operand} {y y' : Opd} {ts : Array TypeId} (hx : opd x = some y) (hx' : opd x' = some y')
  (ho : o.op = .call { callee := .builtin (if mx then .max else .min), args := #[x, x'], argTypes := ts }) (hd : ∀ k, o.dst = some k → k < N) (hK : SGood (estep o.dst (.mnx mx y y') s) (Serves w0 okA ext N K)) : o.wp P a w K Q := by
 simp only [estep] at hK
 have hr := ev_rel h hx
 have hr' := ev_rel h hx'
 split at hK
 ·rename_i k m k' m' hv hv'
  have e1 := one_g hr hv
  have e2 := one_g hr' hv'
  refine wp_value (w' := w) ?_ (hK _ _ E (h.put (.one ⟨rfl, rfl⟩) hd))
  cases mx <;> simp [execOp, ho, resolve, invoke, builtin, Builtin.max_, Builtin.min_, Builtin.max2, Builtin.min2, e1, e2]
 ·exact hK.elim
theorem s_idx (h : St w0 okA ext N s a w E) {t : TypeId} {x x' : Operand} {y y' : Opd} (hx : opd x = some y) (hx' : opd x' = some y') (hu : P.underlying t = some .string)
  (ho : o.op = .index t x x') (hd : ∀ k, o.dst = some k → k < N) (hK : SGood (estep o.dst (.idx y y') s) (Serves w0 okA ext N K)) : o.wp P a w K Q := by
 simp only [estep] at hK
 have hr := ev_rel h hx
 have hr' := ev_rel h hx'
 split at hK
 ·rename_i b k n hv hv'
  have e1 := one_g hr hv
  have e2 := one_g hr' hv'
  obtain ⟨⟨h0, h1⟩, hK⟩ := hK
  have hlt : n.toNat < b.size := by omega
  refine wp_value (w' := w) ?_ (hK _ _ E (h.put (.one ⟨rfl, rfl⟩) hd))
  have h2 : b.data.toList.getD n.toNat 0 = b[n.toNat] := by
   rw [List.getD_eq_getElem?_getD, List.getElem?_eq_getElem (by simpa using hlt)]; rfl
  have h3 : b[n.toNat]? = some b[n.toNat] := by simp [hlt]
  rw [h2]
  simp [execOp, ho, Instr.index, e1, e2, asIntOf, run_underlying hu, h0, hlt]
 ·exact hK.elim
theorem s_fadr (h : St w0 okA ext N s a w E) {t : TypeId} {k : Nat} {f : Field} {i : TypeInfo} {x : Operand} {y : Opd} (hx : opd x = some y) (hf : fieldOf P t k = some f) (hi : P.info? f.type = some i) (hz : i.size ≠ 0)
  (ho : o.op = .fieldAddr t x k) (hd : ∀ k, o.dst = some k → k < N) (hK : SGood (estep o.dst (.fadr f.offset y) s) (Serves w0 okA ext N K)) : o.wp P a w K Q := by
 simp only [estep] at hK
 have hr := ev_rel h hx
 have hrun : ∀ b off, a.eval x = .pointer (some ⟨b, off, none⟩) → (execOp a.eval o).run P w = .ok (.value (.pointer (some ⟨b, off + f.offset, none⟩))) w := fun b off hv => by
  unfold fieldOf at hf
  split at hf
  ·rename_i fs hu
   simp [execOp, ho, Instr.fieldAt, run_underlying hu, hf, hv, Instr.sureAddr, fieldPlace, sizeOf, typeInfo, hi, hz, add_none]
  ·cases hf
 split at hK
 ·rename_i k' off hv
  obtain ⟨g, hg, hp⟩ := one_c hr hv
  exact wp_value (hrun _ _ hp) (hK _ _ E (h.put (.one ⟨g, hg, rfl⟩) hd))
 ·rename_i cs hv
  obtain ⟨b, off, us, hp, ho', hlt, hc⟩ := one_c hr hv
  refine wp_value (hrun _ _ hp) (hK _ _ E (h.put (.one ⟨b, off + f.offset, fun j => us (f.offset + j), rfl, ho', hlt, fun j x hx => ?_⟩) hd))
  rw [List.getElem?_drop] at hx
  obtain ⟨h1, h2⟩ := hc _ x hx
  exact ⟨by rw [Nat.add_assoc]; exact h1, h2⟩
 ·rename_i k' ver i' off hv
  split at hK
  ·rename_i r hs
   split at hK
   ·rename_i hver
    obtain ⟨h1, ver', z, u, hm, hle, hu, hzp⟩ := one_c hr hv
    obtain ⟨_, _, u', _, hm', hown, _⟩ := h.rwS hs (h.zpos hs hm hzp)
    have hm2 := hm
    rw [hm] at hm'
    simp only [Option.some.injEq, Prod.mk.injEq] at hm'
    obtain ⟨rfl, rfl, rfl⟩ := hm'
    obtain ⟨g, n, c, hu1, hp⟩ := hu hver
    exact wp_value (hrun _ _ hp) (hK _ _ E (h.put (.one ⟨rfl, r.ver, r.z, u, hm2, hle, fun _ => ⟨g, n, c, hu1, by rw [Nat.add_assoc]⟩, hzp⟩) hd))
   ·exact hK.elim
  ·exact hK.elim
 ·exact hK.elim
theorem s_iadr (h : St w0 okA ext N s a w E) {t e : TypeId} {i : TypeInfo} {x x' : Operand} {y y' : Opd} (hx : opd x = some y) (hx' : opd x' = some y') (hu : P.underlying t = some (.slice e)) (hi : P.info? e = some i)
  (ho : o.op = .indexAddr t x x') (hd : ∀ k, o.dst = some k → k < N) (hK : SGood (estep o.dst (.iadr i.size y y') s) (Serves w0 okA ext N K)) : o.wp P a w K Q := by
 simp only [estep] at hK
 have hr := ev_rel h hx
 have hr' := ev_rel h hx'
 have hrun : ∀ (b off n c : Nat) (k : IntKind) (m : Int), a.eval x = .slice (some ⟨b, off, none⟩) n c → a.eval x' = .int k m → 0 ≤ m → m < n → (execOp a.eval o).run P w = .ok (.value (.pointer (some ⟨b, off + m.toNat * i.size, none⟩))) w := fun b off n c k m hv hv' h0 h1 => by
  simp [execOp, ho, Instr.indexAt, hv, hv', asIntOf, run_underlying hu, sizeOf, typeInfo, hi, h0, h1, add_none]
 split at hK
 ·rename_i fr z es k n hv hv'
  split at hK
  ·rename_i hz; subst hz
   obtain ⟨⟨h0, h1⟩, hK⟩ := hK
   have e2 := one_g hr' hv'
   have hd2 : DRel w (okE w0 okA E) (.sl fr i.size es) (a.eval x) := by
    have h5 : DRel w (if fr then (fun b => w0.heap.size ≤ b ∧ okE w0 okA E b) else okE w0 okA E) (.sl fr i.size es) (a.eval x) := one_c hr hv
    cases fr with
    | false => exact h5
    | true => exact DRel.keep h5 (.refl _ w) (fun b _ ho => ho.2)
   generalize hvx : a.eval x = vx at hd2
   cases hd2 with
   | nil => simp at h1; omega
   | @sl fr z es b off m c us hn hc hb hlt hz hcell hrel =>
    subst hn
    refine wp_value (hrun b off _ c k n hvx e2 h0 h1) (hK _ _ E (h.put (.one ⟨b, off + n.toNat * i.size, fun j => us n.toNat j, rfl, hb, hlt, fun j x hx => ?_⟩) hd))
    have hlt2 : n.toNat < es.length := by omega
    have he : es[n.toNat]? = some (es.getD n.toNat []) := by rw [List.getD_eq_getElem?_getD, List.getElem?_eq_getElem hlt2]; rfl
    exact ⟨hcell _ _ _ _ he hx, hrel _ _ _ _ he hx⟩
  ·exact hK.elim
 ·rename_i k' ver k n hv hv'
  split at hK
  ·rename_i r hs
   split at hK
   ·rename_i hver
    obtain ⟨hver, hz⟩ := hver
    obtain ⟨⟨h0, h1⟩, hK⟩ := hK
    have e2 := one_g hr' hv'
    obtain ⟨_, ver', z, u, hm, hle, hu', hzp⟩ := one_c hr hv
    obtain ⟨_, _, u', _, hm', hown, _⟩ := h.rwS hs (h.zpos hs hm hzp)
    have hm2 := hm
    rw [hm] at hm'
    simp only [Option.some.injEq, Prod.mk.injEq] at hm'
    obtain ⟨rfl, rfl, rfl⟩ := hm'
    rcases hown.2 with ⟨_, h9⟩ | ⟨g, cap, cur, rfl, _⟩
    ·omega
    ·refine wp_value (hrun g 0 _ cap k n (hu' hver) e2 h0 h1) (hK _ _ E (h.put (.one ⟨rfl, r.ver, r.z, _, hm2, hle, fun _ => ⟨g, _, cap, rfl, by rw [hz]; simp⟩, hzp⟩) hd))
   ·exact hK.elim
  ·exact hK.elim
 ·rename_i k' ver lo k n hv hv'
  split at hK
  ·rename_i r hs
   split at hK
   ·rename_i hver
    obtain ⟨hver, hz⟩ := hver
    obtain ⟨⟨h0, h1⟩, hK⟩ := hK
    have e2 := one_g hr' hv'
    obtain ⟨_, ver', z, u, hm, hle, hu', hzp⟩ := one_c hr hv
    obtain ⟨_, _, u', _, hm', hown, _⟩ := h.rwS hs (h.zpos hs hm hzp)
    have hm2 := hm
    rw [hm] at hm'
    simp only [Option.some.injEq, Prod.mk.injEq] at hm'
    obtain ⟨rfl, rfl, rfl⟩ := hm'
    obtain ⟨g, m, c, A, hu1, hlo, hv1, hA⟩ := hu' hver
    rcases hown.2 with ⟨_, h9⟩ | ⟨g', cap, cur, hu2, _⟩
    ·omega
    ·rw [hu1] at hu2
     injection hu2 with hu2 hu3 hu4
     subst hu3
     have hA' := hA (by omega)
     subst hA'
     refine wp_value (hrun g (lo * r.z) _ _ k n hv1 e2 h0 (by omega)) (hK _ _ E (h.put (.one ⟨rfl, r.ver, r.z, _, hm2, hle, fun _ => ⟨g, _, c, hu1, by rw [hz, Nat.add_mul]; simp⟩, hzp⟩) hd))
   ·exact hK.elim
  ·exact hK.elim
 ·exact hK.elim
theorem s_aadr (h : St w0 okA ext N s a w E) {t e : TypeId} {n : Nat} {i : TypeInfo} {x x' : Operand} {y y' : Opd} (hx : opd x = some y) (hx' : opd x' = some y') (hu : P.underlying t = some (.array n e)) (hi : P.info? e = some i)
  (ho : o.op = .indexAddr t x x') (hd : ∀ k, o.dst = some k → k < N) (hK : SGood (estep o.dst (.aadr n i.size y y') s) (Serves w0 okA ext N K)) : o.wp P a w K Q := by
 simp only [estep] at hK
 have hr := ev_rel h hx
 have hr' := ev_rel h hx'
 have hrun : ∀ (b off : Nat) (k : IntKind) (m : Int), a.eval x = .pointer (some ⟨b, off, none⟩) → a.eval x' = .int k m → 0 ≤ m → m < n → (execOp a.eval o).run P w = .ok (.value (.pointer (some ⟨b, off + m.toNat * i.size, none⟩))) w := fun b off k m hv hv' h0 h1 => by
  simp [execOp, ho, Instr.indexAt, hv, hv', asIntOf, run_underlying hu, Instr.sureAddr, sizeOf, typeInfo, hi, h0, h1, add_none]
 split at hK
 ·rename_i k' off k m hv hv'
  obtain ⟨⟨h0, h1⟩, hK⟩ := hK
  have e2 := one_g hr' hv'
  obtain ⟨g, hg, hp⟩ := one_c hr hv
  exact wp_value (hrun _ _ k m hp e2 h0 h1) (hK _ _ E (h.put (.one ⟨g, hg, rfl⟩) hd))
 ·rename_i cs k m hv hv'
  obtain ⟨⟨h0, h1⟩, hK⟩ := hK
  have e2 := one_g hr' hv'
  obtain ⟨b, off, us, hp, ho', hlt, hc⟩ := one_c hr hv
  refine wp_value (hrun _ _ k m hp e2 h0 h1) (hK _ _ E (h.put (.one ⟨b, off + m.toNat * i.size, fun j => us (m.toNat * i.size + j), rfl, ho', hlt, fun j x hx => ?_⟩) hd))
  rw [List.getElem?_drop] at hx
  obtain ⟨h1, h2⟩ := hc _ x hx
  exact ⟨by rw [Nat.add_assoc]; exact h1, h2⟩
 ·exact hK.elim
theorem run_ssub {t : TypeId} (hu : P.underlying t = some .string) (b : ByteArray) (lo hi' : Option Value) {l h : Nat}
  (hlo : (lo = none ∧ l = 0) ∨ ∃ k m, lo = some (.int k m) ∧ 0 ≤ m ∧ l = m.toNat) (hh : (hi' = none ∧ h = b.size) ∨ ∃ k m, hi' = some (.int k m) ∧ 0 ≤ m ∧ h = m.toNat) (hlh : l ≤ h) (hhn : h ≤ b.size) (w : World) :
  (Instr.sliceAt t (.string b) lo hi' none).run P w = .ok (.string (b.extract l h)) w := by
 rcases hlo with ⟨rfl, rfl⟩ | ⟨k, m, rfl, hm, rfl⟩ <;> rcases hh with ⟨rfl, rfl⟩ | ⟨k', m', rfl, hm', rfl⟩
 ·simp [Instr.sliceAt, run_underlying hu, Instr.slice, Instr.sliceBounds]
 ·have h1 : m' ≤ (b.size : Int) := by omega
  simp [Instr.sliceAt, run_underlying hu, Instr.slice, Instr.sliceBounds, Instr.sliceBound, asIntOf, hm', h1]
 ·have h1 : m ≤ (b.size : Int) := by omega
  simp [Instr.sliceAt, run_underlying hu, Instr.slice, Instr.sliceBounds, Instr.sliceBound, asIntOf, hm, h1]
 ·have h1 : m' ≤ (b.size : Int) := by omega
  have h2 : m ≤ m' := by omega
  have h3 : (m'.toNat : Int) = m' := by omega
  simp [Instr.sliceAt, run_underlying hu, Instr.slice, Instr.sliceBounds, Instr.sliceBound, asIntOf, hm, hm', h1, h2, h3]
theorem s_ssub (h : St w0 okA ext N s a w E) {t : TypeId} {x : Operand} {y : Opd} (hx : opd x = some y) (hu : P.underlying t = some .string) (lo hi' : Option Operand) {i : Ins} (hi : ssubOf y lo hi' = some i)
  (ho : o.op = .slice t x lo hi' none) (hd : ∀ k, o.dst = some k → k < N) (hK : SGood (estep o.dst i s) (Serves w0 okA ext N K)) : o.wp P a w K Q := by
 have hr := ev_rel h hx
 have core : ∀ (b : ByteArray) (l hh : Nat), s.ev y = .one (.g (.string b)) → ((lo.map a.eval = none ∧ l = 0) ∨ ∃ k m, lo.map a.eval = some (.int k m) ∧ 0 ≤ m ∧ l = m.toNat) → ((hi'.map a.eval = none ∧ hh = b.size) ∨ ∃ k m, hi'.map a.eval = some (.int k m) ∧ 0 ≤ m ∧ hh = m.toNat) → l ≤ hh → hh ≤ b.size →
   Serves w0 okA ext N K (s.put o.dst (sv (b.extract l hh))) → o.wp P a w K Q := fun b l hh hv h1 h2 h3 h4 hK => by
  have e1 := one_g hr hv
  have hrun := run_ssub (P := P) hu b (lo.map a.eval) (hi'.map a.eval) h1 h2 h3 h4 w
  refine wp_value (v := .string (b.extract l hh)) (w' := w) ?_ (hK _ _ E (h.put (.one ⟨rfl, rfl⟩) hd))
  simp only [execOp, ho, Option.map_none, Sem.run_bind, e1, hrun]
  rfl
 have gi : ∀ (u : Operand) (v : Opd) (k : IntKind) (m : Int), opd u = some v → s.ev v = .one (.g (.int k m)) → a.eval u = .int k m := fun u v k m hu hv => one_g (ev_rel h hu) hv
 unfold ssubOf at hi
 split at hi
 ·injection hi with hi; subst hi
  simp only [estep, Option.map_none] at hK
  split at hK
  ·rename_i b hv _ _
   refine core b 0 b.size hv (.inl ⟨rfl, rfl⟩) (.inl ⟨rfl, rfl⟩) (Nat.zero_le _) (Nat.le_refl _) ?_
   rw [ByteArray.extract_zero_size]; exact hK
  ·rename_i hc _; cases hc
  ·rename_i hc; cases hc
  ·rename_i hc _; cases hc
  ·exact hK.elim
 ·rename_i u
  simp only [Option.map_eq_some_iff] at hi
  obtain ⟨v, huv, rfl⟩ := hi
  simp only [estep, Option.map_none, Option.map_some] at hK
  split at hK
  ·rename_i hc _; cases hc
  ·rename_i b k l hv hl _
   simp only [Option.some.injEq] at hl
   obtain ⟨⟨h0, h1⟩, hK⟩ := hK
   exact core b l.toNat b.size hv (.inr ⟨k, l, by simp [gi u v k l huv hl], h0, rfl⟩) (.inl ⟨rfl, rfl⟩) (by omega) (Nat.le_refl _) hK
  ·rename_i hc; cases hc
  ·rename_i hc; cases hc
  ·exact hK.elim
 ·rename_i u
  simp only [Option.map_eq_some_iff] at hi
  obtain ⟨v, huv, rfl⟩ := hi
  simp only [estep, Option.map_none, Option.map_some] at hK
  split at hK
  ·rename_i hc; cases hc
  ·rename_i hc _; cases hc
  ·rename_i b k l hv _ hl
   simp only [Option.some.injEq] at hl
   obtain ⟨⟨h0, h1⟩, hK⟩ := hK
   exact core b 0 l.toNat hv (.inl ⟨rfl, rfl⟩) (.inr ⟨k, l, by simp [gi u v k l huv hl], h0, rfl⟩) (by omega) (by omega) hK
  ·rename_i hc _; cases hc
  ·exact hK.elim
 ·rename_i u u'
  split at hi
  ·rename_i v v' huv huv'
   injection hi with hi; subst hi
   simp only [estep, Option.map_some] at hK
   split at hK
   ·rename_i hc _; cases hc
   ·rename_i hc; cases hc
   ·rename_i hc _; cases hc
   ·rename_i b k l k' m hv hl hm
    simp only [Option.some.injEq] at hl hm
    obtain ⟨⟨h0, h1, h2⟩, hK⟩ := hK
    exact core b l.toNat m.toNat hv (.inr ⟨k, l, by simp [gi u v k l huv hl], h0, rfl⟩) (.inr ⟨k', m, by simp [gi u' v' k' m huv' hm], by omega, rfl⟩) (by omega) (by omega) hK
   ·exact hK.elim
  ·cases hi
/-- Cells read one by one. -/
theorem load_rel {b off : Nat} {cs : List Cel} {us : Nat → Value} {ok : Nat → Prop} {base : Nat} (hc : ∀ (j : Nat) (x : Cel), cs[j]? = some x → w.cell? ⟨b, off + j, none⟩ = some (us j) ∧ CRel w ok base E x (us j)) {t : TypeId} {d : TypeDesc} {i : TypeInfo}
  (hu : P.underlying t = some d) (hi : P.info? t = some i) (x : Operand) (hx : a.eval x = .pointer (some ⟨b, off, none⟩)) (ho : o.op = .load t x) :
  ∀ s' T, SGood (loadS s s' (isAggB d) i.size cs) T → ∃ v y, (execOp a.eval o).run P w = .ok (.value v) w ∧ VRel w ok base E y v ∧ T (s.put s' y) := by
 intro dst T hK
 unfold loadS at hK
 split at hK
 ·rename_i hagg
  obtain ⟨hl, hK⟩ := hK
  refine ⟨.agg ((List.range i.size).map us).toArray, _, ?_, .ag ⟨by simp; omega, fun j c u h1 h2 => ?_⟩, hK⟩
  ·have h1 : isAggB d = true := hagg
   have hload := run_loadCells_list (P := P) (w := w) ⟨b, off, none⟩ ((List.range i.size).map us) (fun j v hv => by
    rw [add_none]
    rw [List.getElem?_map] at hv
    cases hj : (List.range i.size)[j]? with
    | none => rw [hj] at hv; cases hv
    | some j' =>
     rw [hj] at hv; simp at hv; subst hv
     have : j < i.size ∧ j' = j := by
      have := List.getElem?_eq_some_iff.1 hj; obtain ⟨h3, h4⟩ := this; simp at h3 h4; exact ⟨h3, h4.symm⟩
     obtain ⟨h3, rfl⟩ := this
     exact (hc j' (cs[j']'(by omega)) (List.getElem?_eq_getElem _)).1)
   have hsz : ((List.range i.size).map us).length = i.size := by simp
   rw [hsz] at hload
   cases d <;> simp [isAggB] at h1 <;> simp [execOp, ho, hx, Instr.loadAt, Instr.sureAddr, loadVar, isAgg, run_underlying hu, sizeOf, typeInfo, hi, hload]
  ·rw [List.getElem?_map] at h2
   cases hj : (List.range i.size)[j]? with
   | none => rw [hj] at h2; cases h2
   | some j' =>
    rw [hj] at h2; simp at h2; subst h2
    have : j < i.size ∧ j' = j := by
     have := List.getElem?_eq_some_iff.1 hj; obtain ⟨h3, h4⟩ := this; simp at h3 h4; exact ⟨h3, h4.symm⟩
    obtain ⟨h3, rfl⟩ := this
    rw [List.getElem?_take, if_pos h3] at h1
    exact (hc _ _ h1).2
 ·rename_i hagg
  split at hK
  ·rename_i c cs'
   obtain ⟨h1, h2⟩ := hc 0 c rfl
   refine ⟨us 0, _, ?_, .one h2, hK⟩
   have h3 : isAggB d = false := by simpa using hagg
   rw [Nat.add_zero] at h1
   cases d <;> simp [isAggB] at h3 <;> simp [execOp, ho, hx, Instr.loadAt, Instr.sureAddr, loadVar, isAgg, run_underlying hu, load, Sem.run, h1]
  ·exact hK.elim
theorem s_load (h : St w0 okA ext N s a w E) {t : TypeId} {d : TypeDesc} {i : TypeInfo} {x : Operand} {y : Opd} (hx : opd x = some y) (hu : P.underlying t = some d) (hi : P.info? t = some i)
  (ho : o.op = .load t x) (hd : ∀ k, o.dst = some k → k < N) (hK : SGood (estep o.dst (.load (isAggB d) i.size y) s) (Serves w0 okA ext N K)) : o.wp P a w K Q := by
 simp only [estep] at hK
 have hr := ev_rel h hx
 split at hK
 ·rename_i k off hv
  split at hK
  ·rename_i cs hs
   obtain ⟨g, hg, hp⟩ := one_c hr hv
   obtain ⟨g', cur, ty, h1, h2, h3⟩ := h.bx k cs hs
   rw [hg] at h1; injection h1 with h1; subst h1
   obtain ⟨v, yv, hrun, hrel, hT⟩ := load_rel (E := E) (a := a) (o := o) (s := s) (cs := cs.drop off) (us := fun j => (cur.toList[off + j]?).getD undef) (ok := okE w0 okA E) (base := w0.heap.size) (fun j x hx => by
    rw [List.getElem?_drop] at hx
    obtain ⟨u, h4, h5⟩ := h3.at_ hx
    simp only [h4, Option.getD_some]
    exact ⟨by rw [cell_of_row w g (off + j) cur ty (0, 0) h2, ← Array.getElem?_toList, h4], h5⟩) hu hi x hp ho _ _ hK
   exact wp_value hrun (hT _ _ E (h.put hrel hd))
  ·exact hK.elim
 ·rename_i cs hv
  obtain ⟨b, off, us, hp, hok, hlt, hc⟩ := one_c hr hv
  obtain ⟨v, yv, hrun, hrel, hT⟩ := load_rel (E := E) (a := a) (o := o) (s := s) (cs := cs.map Cel.dat) (us := us) (ok := okE w0 okA E) (base := w0.heap.size) (fun j x hx => by
    rw [List.getElem?_map] at hx
    cases hj : cs[j]? with
    | none => rw [hj] at hx; cases hx
    | some c0 =>
     rw [hj] at hx; simp at hx; subst hx
     obtain ⟨h1, h2⟩ := hc j c0 hj
     refine ⟨h1, ?_⟩
     generalize us j = uj at h2
     cases h2 with
     | g hv => exact ⟨rfl, hv⟩
     | any hv => exact hv
     | nil => exact DRel.nil
     | sl us' h1 h2 h3 h4 h5 h6 h7 => exact DRel.sl us' h1 h2 h3 h4 h5 h6 h7
     | fm cs' h1 h2 h3 h4 h5 h6 => exact DRel.fm cs' h1 h2 h3 h4 h5 h6
     | ep us' h1 h2 h3 h4 => exact ⟨_, _, us', rfl, h1, h2, fun j x hx => ⟨h3 j x hx, h4 j x hx⟩⟩) hu hi x hp ho _ _ hK
  exact wp_value hrun (hT _ _ E (h.put hrel hd))
 ·rename_i k ver j off hv
  split at hK
  ·rename_i r hs
   split at hK
   ·rename_i hver
    split at hK
    ·rename_i e he
     obtain ⟨_, ver', z, u, hm, hle, hu', hzp⟩ := one_c hr hv
     obtain ⟨_, hrow, u', vs, hm', hown, hrel0⟩ := h.rwS hs (h.zpos hs hm hzp)
     rw [hm] at hm'
     simp only [Option.some.injEq, Prod.mk.injEq] at hm'
     obtain ⟨rfl, rfl, rfl⟩ := hm'
     obtain ⟨g, n, c, rfl, hp⟩ := hu' hver
     obtain ⟨v, yv, hrun, hrel, hT⟩ := load_rel (E := E) (a := a) (o := o) (s := s) (cs := e.drop off) (us := fun l => vs.getD (j * r.z + (off + l)) undef) (ok := okE w0 okA E) (base := w0.heap.size) (fun l x hx => by
      have hx' := hx
      rw [List.getElem?_drop] at hx'
      obtain ⟨h6, h7, h8⟩ := vs_at (n := 0) hrow hrel0 he hx'
      have h4 := hown.cells (g := g) rfl _ _ h6
      rw [add_none, Nat.zero_add, ← Nat.add_assoc] at h4
      exact ⟨by rw [h4, Nat.add_assoc], (h8.ofD h7).toC⟩) hu hi x hp ho _ _ hK
     exact wp_value hrun (hT _ _ E (h.put hrel hd))
    ·exact hK.elim
   ·exact hK.elim
  ·exact hK.elim
 ·exact hK.elim
end
end Go.Ai
namespace Go.Ai
open Go
set_option linter.unusedSimpArgs false
set_option linter.unusedVariables false
section lists
variable {α : Type}
theorem wr_length (cs : List α) (off : Nat) (news : List α) (h : off + news.length ≤ cs.length) : (wr cs off news).length = cs.length := by
 simp [wr]; omega
theorem wr_append_left (e F : List α) (off : Nat) (news : List α) (h : off + news.length ≤ e.length) : wr e off news ++ F = wr (e ++ F) off news := by
 simp only [wr, List.append_assoc]
 rw [List.take_append_of_le_length (by omega), List.drop_append_of_le_length (by omega)]
theorem wr_append_right (e F : List α) (off : Nat) (news : List α) : e ++ wr F off news = wr (e ++ F) (e.length + off) news := by
 simp only [wr, List.take_length_add_append, Nat.add_assoc, List.drop_length_add_append, List.append_assoc]
theorem flatten_wr {z : Nat} (off : Nat) (news : List α) (hn : off + news.length ≤ z) : ∀ {es : List (List α)} {i : Nat} {e : List α}, (∀ e ∈ es, e.length = z) → es[i]? = some e →
  (es.set i (wr e off news)).flatten = wr es.flatten (i * z + off) news
 | [], i, e, _, he => by simp at he
 | e0 :: es, 0, e, hz, he => by
  simp at he; subst he
  have h0 : e0.length = z := hz e0 (by simp)
  simp only [List.set_cons_zero, List.flatten_cons, Nat.zero_mul, Nat.zero_add]
  exact wr_append_left e0 es.flatten off news (by omega)
 | e0 :: es, i + 1, e, hz, he => by
  have h0 : e0.length = z := hz e0 (by simp)
  have ih := flatten_wr off news hn (es := es) (fun e h => hz e (by simp [h])) (by simpa using he)
  simp only [List.set_cons_succ, List.flatten_cons, ih]
  rw [wr_append_right, h0]
  congr 1
  rw [Nat.add_mul]; omega
theorem map_wr {β : Type} (f : α → β) (cs : List α) (off : Nat) (news : List α) : (wr cs off news).map f = wr (cs.map f) off (news.map f) := by
 simp [wr]
theorem flatten_len {z : Nat} : ∀ {es : List (List α)}, (∀ e ∈ es, e.length = z) → es.flatten.length = es.length * z
 | [], _ => by simp
 | e0 :: es, hz => by
  have ih := flatten_len (es := es) (fun e h => hz e (by simp [h]))
  have h0 : e0.length = z := hz e0 (by simp)
  simp only [List.flatten_cons, List.length_append, ih, h0, List.length_cons, Nat.add_mul]; omega
theorem flatten_inv {z : Nat} : ∀ {es : List (List α)}, (∀ e ∈ es, e.length = z) → ∀ {j : Nat} {x : α}, es.flatten[j]? = some x → ∃ i k e, es[i]? = some e ∧ e[k]? = some x ∧ j = i * z + k
 | [], _, j, x, h => by simp at h
 | e0 :: es, hz, j, x, h => by
  have h0 : e0.length = z := hz e0 (by simp)
  rw [List.flatten_cons, List.getElem?_append] at h
  split at h
  ·exact ⟨0, j, e0, rfl, h, by simp⟩
  ·rename_i hge
   obtain ⟨i, k, e, h1, h2, h3⟩ := flatten_inv (es := es) (fun e h => hz e (by simp [h])) h
   exact ⟨i + 1, k, e, by simpa using h1, h2, by rw [Nat.add_mul]; omega⟩
theorem wr_take (cs : List α) (off : Nat) (news : List α) (m : Nat) (h : off + news.length ≤ m) (hm : m ≤ cs.length) : (wr cs off news).take m = wr (cs.take m) off news := by
 have h1 : cs = cs.take m ++ cs.drop m := (List.take_append_drop m cs).symm
 have h2 : off + news.length ≤ (cs.take m).length := by simp; omega
 conv => lhs; rw [h1, ← wr_append_left _ _ _ _ h2]
 have h3 : (wr (cs.take m) off news).length = m := by rw [wr_length _ _ _ h2]; simp; omega
 rw [List.take_append_of_le_length (by omega), List.take_of_length_le (by omega)]
end lists
section
variable {P : Program} {w0 w w' : World} {okA : Nat → Prop} {ext : Ext} {N : Nat} {s : AS} {a : Act} {E : Env} {o : Oper} {K : Act → World → Prop} {Q : Exit → Act → World → Prop}
theorem CsRel.wr {cs ds : List Cel} {us vs : List Value} {ok : Nat → Prop} {base off : Nat} (h : CsRel w ok base E cs us) (k : CsRel w ok base E ds vs) : CsRel w ok base E (Ai.wr cs off ds) (Ai.wr us off vs) := by
 unfold Ai.wr
 rw [← k.1]
 exact ((h.take off).append k).append (h.drop _)
theorem RRel.wr {cs ds : List Cel} {us vs : List Value} {ok : Nat → Prop} {base off : Nat} (h : RRel w ok base cs us) (k : RRel w ok base ds vs) : RRel w ok base (Ai.wr cs off ds) (Ai.wr us off vs) := by
 unfold Ai.wr
 rw [← k.1]
 exact ((h.take off).append k).append (h.drop _)
theorem s_fld (h : St w0 okA ext N s a w E) {t : TypeId} {k : Nat} {f : Field} {d : TypeDesc} {i : TypeInfo} {x : Operand} {y : Opd} (hx : opd x = some y) (hf : fieldOf P t k = some f) (hu : P.underlying f.type = some d) (hi : P.info? f.type = some i)
  (ho : o.op = .field t x k) (hd : ∀ k, o.dst = some k → k < N) (hK : SGood (estep o.dst (.fld f.offset (isAggB d) i.size y) s) (Serves w0 okA ext N K)) : o.wp P a w K Q := by
 simp only [estep] at hK
 have hr := ev_rel h hx
 unfold fieldOf at hf
 split at hf
 ·rename_i fs hus
  split at hK
  ·rename_i cs hv
   obtain ⟨us, hp, hc⟩ := ag_c hr hv
   split at hK
   ·rename_i hagg
    obtain ⟨hl, hK⟩ := hK
    refine wp_value (v := .agg ((us.drop f.offset).take i.size).toArray) (w' := w) ?_ (hK _ _ E (h.put (.ag ((hc.drop _).take _)) hd))
    cases d <;> simp [isAggB] at hagg <;> simp [execOp, ho, hp, Instr.field, run_underlying hus, hf, asAgg, part, isAgg, run_underlying hu, sizeOf, typeInfo, hi]
   ·rename_i hagg
    split at hK
    ·rename_i c hc0
     obtain ⟨u, h1, h2⟩ := hc.at_ hc0
     refine wp_value (v := u) (w' := w) ?_ (hK _ _ E (h.put (.one h2) hd))
     have h4 : isAggB d = false := by simpa using hagg
     cases d <;> simp [isAggB] at h4 <;> simp [execOp, ho, hp, Instr.field, run_underlying hus, hf, asAgg, part, isAgg, run_underlying hu, h1]
    ·exact hK.elim
  ·exact hK.elim
 ·cases hf
theorem run_store_row {g : Nat} {cur : Array Value} {ty t : TypeId} {i : TypeInfo} {off : Nat} {v : Value} (hg : w.heap[g]? = some (.cells cur ty (0, 0))) (hi : P.info? t = some i) (hv : v.cells.size = i.size) (hl : off + i.size ≤ cur.size)
  (h1 : ∀ u ∈ v.cells.toList, u.oneCell' = true) (x y : Operand) (hx : a.eval x = .pointer (some ⟨g, off, none⟩)) (hy : a.eval y = v) (ho : o.op = .store t x y) :
  (execOp a.eval o).run P w = .ok .skip (w.setRow g (wr cur.toList off v.cells.toList).toArray) := by
 have hs := run_storeCells_at (P := P) g off ty v.cells.toList 0 cur w hg (by simp; omega) h1
 simp only [Nat.add_zero] at hs
 simp only [execOp, ho, hx, hy, Instr.storeAt, Instr.sureAddr, storeVar, sizeOf, typeInfo, hv]
 simp [hi, hv, hs, wr]
theorem setRow_grown (w : World) (g : Nat) (cs : Array Value) : w.grownBy (w.setRow g cs) (some g) :=
 ⟨rfl, rfl, rfl, by simp, fun k _ hk => setRow_other w g k cs (by simpa using hk)⟩
theorem s_stRow (h : St w0 okA ext N s a w E) {t : TypeId} {i : TypeInfo} {x x' : Operand} {k ver j off : Nat} {news : List Cel} {r : Row} (hi : P.info? t = some i) (hs : s.rw k = some r)
  (hv : CRel w (okE w0 okA E) w0.heap.size E (.op k ver j off) (a.eval x)) (h4 : CsRel w (okE w0 okA E) w0.heap.size E news (a.eval x').cells.toList)
  (ho : o.op = .store t x x') (hd : ∀ k, o.dst = some k → k < N) (hK : SGood (stRow s o.dst i.size k ver j off news r) (Serves w0 okA ext N K)) : o.wp P a w K Q := by
 unfold stRow at hK
 split at hK
 ·rename_i hcond
  simp only [Bool.and_eq_true, decide_eq_true_eq, List.all_eq_true] at hcond
  obtain ⟨⟨hver, hnl⟩, hgs⟩ := hcond
  split at hK
  ·rename_i e he
   obtain ⟨hl, hK⟩ := hK
   obtain ⟨_, ver', z, u, hm, hle, hu', hzp⟩ := hv
   obtain ⟨hz0, hrow, u', vs, hm', hown, hrel0⟩ := h.rwS hs (h.zpos hs hm hzp)
   have hm2 := hm
   rw [hm] at hm'
   simp only [Option.some.injEq, Prod.mk.injEq] at hm'
   obtain ⟨rfl, rfl, rfl⟩ := hm'
   obtain ⟨g, n, c, rfl, hp⟩ := hu' hver
   have hsz : (a.eval x').cells.size = i.size := by have := h4.1; simp at this; omega
   have hone := h4.ones
   rcases hown.2 with ⟨h5, _⟩ | ⟨g', cap, cur, h5, hbg, hg, hnc, hcm, hcs, htake⟩
   ·cases h5
   ·simp only [Value.slice.injEq, Option.some.injEq, Addr.mk.injEq, and_true] at h5
    obtain ⟨rfl, rfl, rfl⟩ := h5
    have hlen : e.length = r.z := hrow e (List.mem_of_getElem? he)
    have hj : j < r.es.length := (List.getElem?_eq_some_iff.1 he).1
    have hfl : vs.length = r.es.length * r.z := hown.1
    have hjz : j * r.z + r.z ≤ r.es.length * r.z := by rw [← Nat.succ_mul]; exact Nat.mul_le_mul_right _ hj
    have hcz : r.es.length * r.z ≤ c * r.z := Nat.mul_le_mul_right _ hnc
    have hrun := run_store_row (P := P) (a := a) (o := o) hg hi hsz (by omega) hone x x' hp rfl ho
    have hgr := setRow_grown w g (Ai.wr cur.toList (j * r.z + off) (a.eval x').cells.toList).toArray
    have hrow' : rowOk r.z (r.es.set j (Ai.wr e off news)) := fun e' he' => by
     rcases List.mem_or_eq_of_mem_set he' with h6 | rfl
     ·exact hrow e' h6
     ·rw [wr_length _ _ _ (by omega)]; exact hlen
    have hnews' : (a.eval x').cells.toList.length = news.length := h4.1.symm
    have hflat : (r.es.set j (Ai.wr e off news)).flatten = Ai.wr r.es.flatten (j * r.z + off) news := flatten_wr off news (by omega) hrow he
    have hrel' : RRel w (okE w0 okA E) w0.heap.size (r.es.set j (Ai.wr e off news)).flatten (Ai.wr vs (j * r.z + off) (a.eval x').cells.toList) := by
     rw [hflat]; exact hrel0.wr (RRel.of h4 hgs)
    have hst := h.rowTurn (r' := { r with es := r.es.set j (Ai.wr e off news) }) (u' := .slice (some ⟨g, 0, none⟩) r.es.length c) (vs' := Ai.wr vs (j * r.z + off) (a.eval x').cells.toList) hz0 hs hm2 rfl (Nat.le_refl _) (fun _ => rfl) hrow' hgr ⟨by rw [wr_length _ _ _ (by omega)]; simpa using hfl, .inr ⟨g, c, _, by simp, hbg, setRow_heap w g cur _ _ (0, 0) hg, by simpa using hnc, hcm, by simp [Ai.wr]; omega, by
     simp only [List.length_set]
     rw [wr_take _ _ _ _ (by omega) (by simp; omega), htake]⟩⟩ hrel' (.inl rfl)
    exact wp_skip_ hrun (hK _ _ _ (hst.put .any hd))
  ·exact hK.elim
 ·exact hK.elim
theorem s_store (h : St w0 okA ext N s a w E) {t : TypeId} {i : TypeInfo} {x x' : Operand} {y y' : Opd} (hx : opd x = some y) (hx' : opd x' = some y') (hi : P.info? t = some i)
  (ho : o.op = .store t x x') (hd : ∀ k, o.dst = some k → k < N) (hK : SGood (estep o.dst (.store i.size y y') s) (Serves w0 okA ext N K)) : o.wp P a w K Q := by
 simp only [estep] at hK
 have hr := ev_rel h hx
 have hr' := ev_rel h hx'
 split at hK
 ·rename_i k off news hv hnews
  split at hK
  ·rename_i cs hs
   split at hK
   ·rename_i hnl
    obtain ⟨hl, hK⟩ := hK
    obtain ⟨g, hg, hp⟩ := one_c hr hv
    obtain ⟨g', cur, ty, h1, h2, h3⟩ := h.bx k cs hs
    rw [hg] at h1; injection h1 with h1; subst h1
    have h4 := hr'.cells hnews
    have hsz : (a.eval x').cells.size = i.size := by have := h4.1; simp at this; omega
    have hcl : cs.length = cur.size := by simpa using h3.1
    have hrun := run_store_row (P := P) (a := a) (o := o) h2 hi hsz (by omega) h4.ones x x' hp rfl ho
    have hgr := setRow_grown w g (Ai.wr cur.toList off (a.eval x').cells.toList).toArray
    have hkeep : Keeps (okE w0 okA E) w (w.setRow g (Ai.wr cur.toList off (a.eval x').cells.toList).toArray) := ⟨hgr.size, fun b hb ho => hgr.block b hb (fun e => ho.1 k (by rw [hg]; exact e.symm))⟩
    have hst := h.boxTurn (cs' := Ai.wr cs off news) hg hgr (setRow_heap w g cur _ ty (0, 0) h2) ((h3.wr h4).move hkeep (fun _ _ h => h) (Nat.le_refl _) (.refl E)) (fun hk => by obtain ⟨c0, T, q1, q2⟩ := h.bt k g hk hg; rw [h2] at q1; injection q1 with q1; injection q1 with _ q1; rw [q1]; exact q2)
    exact wp_skip_ hrun (hK _ _ E (hst.put .any hd))
   ·exact hK.elim
  ·exact hK.elim
 ·rename_i k ver j off news hv hnews
  split at hK
  ·rename_i r hs
   have hv' := one_c hr hv
   have h4 := hr'.cells hnews
   split at hK
   ·rename_i hcond
    exact s_stRow h hi hs hv' h4 ho hd (by unfold stRow; rw [if_pos hcond]; exact hK)
   ·split at hK
    ·rename_i j' q hmv
     split at hK
     ·rename_i hne
      obtain ⟨h1, h2, h3⟩ := mvR_some hmv
      obtain ⟨E', hst, hle, hokb, hrw, hcs⟩ := h.mv h1 h2 h3
      exact s_stRow hst hi ((hrw k (Ne.symm hne)).trans hs) (hv'.move (.refl _ w) hokb (Nat.le_refl _) hle) (hcs h4) ho hd hK
     ·exact hK.elim
    ·exact hK.elim
  ·exact hK.elim
 ·exact hK.elim
end
end Go.Ai
namespace Go.Ai
open Go
set_option linter.unusedSimpArgs false
set_option linter.unusedVariables false
section
variable {P : Program} {w0 w w' : World} {okA : Nat → Prop} {ext : Ext} {N : Nat} {s : AS} {a : Act} {E : Env} {o : Oper} {K : Act → World → Prop} {Q : Exit → Act → World → Prop}
theorem slice_form {c : Cel} {v : Value} {fr : Bool} {z : Nat} {es : List (List Cel)} {ok : Nat → Prop} (h : DRel w ok c v) (hc : c = .sl fr z es) : ∃ b n, v = .slice b es.length n ∧ es.length ≤ n ∨ ∃ b n, v = .slice b 0 n ∧ es = [] := by
 subst hc
 cases h with
 | nil => exact ⟨none, 0, .inr ⟨_, _, rfl, rfl⟩⟩
 | sl us h1 h2 => subst h1; exact ⟨_, _, .inl ⟨rfl, h2⟩⟩
theorem DRel.cut {v : Value} {fr : Bool} {z : Nat} {es : List (List Cel)} {ok : Nat → Prop} (h : DRel w ok (.sl fr z es) v) {l hh : Nat} (hl : l ≤ hh) (hle : hh ≤ es.length) :
  ∃ b n c, v = .slice b n c ∧ n = es.length ∧ n ≤ c ∨ (∃ b c, v = .slice b 0 c ∧ es = [] ∧ l = 0 ∧ hh = 0) := by
 cases h with
 | nil => simp at hle; subst hle; simp at hl; subst hl; exact ⟨none, 0, 0, .inr ⟨_, _, rfl, rfl, rfl, rfl⟩⟩
 | sl us h1 h2 => exact ⟨_, _, _, .inl ⟨rfl, h1, h2⟩⟩
theorem cut_rel {v : Value} {fr : Bool} {z : Nat} {es : List (List Cel)} {ok : Nat → Prop} (h : DRel w ok (.sl fr z es) v) {l hh : Nat} (hl : l ≤ hh) (hle : hh ≤ es.length) {b : Option Addr} {n c : Nat} (hv : v = .slice b n c) (hc : hh ≤ c) :
  DRel w ok (.sl fr z ((es.take hh).drop l)) (.slice (if c = l then b else b.map (·.add (l * z))) (hh - l) (c - l)) := by
 subst hv
 by_cases he : (es.take hh).drop l = []
 ·rw [he]
  have : hh - l = 0 := by have := congrArg List.length he; simp at this; omega
  rw [this]; exact .nil
 ·cases h with
  | nil => simp at he
  | @sl fr z es b off n c us h1 h2 h3 h4 h5 h6 h7 =>
   have hlt : l < hh := by
    rcases Nat.lt_or_ge l hh with h | h
    ·exact h
    ·exact absurd (List.drop_eq_nil_of_le (by simp; omega)) he
   rw [if_neg (by omega)]
   simp only [Option.map_some, add_none]
   refine .sl (fun i j => us (l + i) j) (by simp; omega) (by omega) h3 h4 (fun e hm => h5 e (List.mem_of_mem_take (List.mem_of_mem_drop hm))) (fun i e j x hi hx => ?_) (fun i e j x hi hx => ?_)
   ·rw [List.getElem?_drop, List.getElem?_take] at hi
    split at hi
    ·have h8 := h6 _ _ _ _ hi hx
     rw [Nat.add_mul] at h8
     rw [show off + l * z + i * z + j = off + (l * z + i * z) + j by omega]; exact h8
    ·cases hi
   ·rw [List.getElem?_drop, List.getElem?_take] at hi
    split at hi
    ·exact h7 _ _ _ _ hi hx
    ·cases hi
theorem DRel.cap {v : Value} {fr : Bool} {z : Nat} {es : List (List Cel)} {ok : Nat → Prop} (h : DRel w ok (.sl fr z es) v) : ∃ b c, v = .slice b es.length c ∧ es.length ≤ c := by
 cases h with
 | nil => exact ⟨_, _, rfl, Nat.zero_le _⟩
 | sl us h1 h2 => subst h1; exact ⟨_, _, rfl, h2⟩
theorem run_slice_own {t e : TypeId} {i : TypeInfo} (hu : P.underlying t = some (.slice e)) (hi : P.info? e = some i) (x : Value) (lo hi' : Option Value) {b : Option Addr} {n c l h : Nat} (hx : x = .slice b n c) (hn : n ≤ c)
  (hlo : (lo = none ∧ l = 0) ∨ ∃ k m, lo = some (.int k m) ∧ 0 ≤ m ∧ l = m.toNat) (hh : (hi' = none ∧ h = n) ∨ ∃ k m, hi' = some (.int k m) ∧ 0 ≤ m ∧ h = m.toNat) (hlh : l ≤ h) (hhn : h ≤ n) (w : World) :
  (Instr.sliceAt t x lo hi' none).run P w = .ok (.slice (if c = l then b else b.map (·.add (l * i.size))) (h - l) (c - l)) w := by
 subst hx
 have hcl : (c : Int) = c := rfl
 rcases hlo with ⟨rfl, rfl⟩ | ⟨k, m, rfl, hm, rfl⟩ <;> rcases hh with ⟨rfl, rfl⟩ | ⟨k', m', rfl, hm', rfl⟩
 ·simp [Instr.sliceAt, run_underlying hu, Instr.slice, Instr.sliceBounds, sizeOf, typeInfo, hi]
 ·have h1 : m' ≤ (c : Int) := by omega
  simp [Instr.sliceAt, run_underlying hu, Instr.slice, Instr.sliceBounds, Instr.sliceBound, asIntOf, sizeOf, typeInfo, hi, hm', h1]
 ·have h1 : m ≤ (h : Int) := by omega
  simp [Instr.sliceAt, run_underlying hu, Instr.slice, Instr.sliceBounds, Instr.sliceBound, asIntOf, sizeOf, typeInfo, hi, hm, h1]
 ·have h1 : m' ≤ (c : Int) := by omega
  have h2 : m ≤ m' := by omega
  have h3 : (m'.toNat : Int) = m' := by omega
  simp [Instr.sliceAt, run_underlying hu, Instr.slice, Instr.sliceBounds, Instr.sliceBound, asIntOf, sizeOf, typeInfo, hi, hm, hm', h1, h2, h3]
theorem slc_core (h : St w0 okA ext N s a w E) {t e : TypeId} {i : TypeInfo} {x : Operand} {y : Opd} (hx : opd x = some y) (hu : P.underlying t = some (.slice e)) (hi : P.info? e = some i) (lo hi' : Option Operand)
  (ho : o.op = .slice t x lo hi' none) (hd : ∀ k, o.dst = some k → k < N) {fr : Bool} {es : List (List Cel)} (hv : s.ev y = .one (.sl fr i.size es)) {l hh : Nat}
  (hlo : (lo.map a.eval = none ∧ l = 0) ∨ ∃ k m, lo.map a.eval = some (.int k m) ∧ 0 ≤ m ∧ l = m.toNat) (hhi : (hi'.map a.eval = none ∧ hh = es.length) ∨ ∃ k m, hi'.map a.eval = some (.int k m) ∧ 0 ≤ m ∧ hh = m.toNat) (hlh : l ≤ hh) (hhn : hh ≤ es.length)
  (hK : Serves w0 okA ext N K (s.put o.dst (.one (.sl fr i.size ((es.take hh).drop l))))) : o.wp P a w K Q := by
 have hr := ev_rel h hx
 have h1 : DRel w (if fr then (fun b => w0.heap.size ≤ b ∧ okE w0 okA E b) else okE w0 okA E) (.sl fr i.size es) (a.eval x) := one_c hr hv
 obtain ⟨b, c, hval, hcap⟩ := h1.cap
 have hrun := run_slice_own hu hi (a.eval x) (lo.map a.eval) (hi'.map a.eval) hval hcap hlo hhi hlh hhn w
 have h2 := cut_rel h1 hlh hhn hval (Nat.le_trans hhn hcap)
 refine wp_value (v := _) (w' := w) ?_ (hK _ _ E (h.put (.one h2) hd))
 simp only [execOp, ho, Option.map_none, Sem.run_bind, hrun]
 rfl
theorem s_slc (h : St w0 okA ext N s a w E) {t e : TypeId} {i : TypeInfo} {x : Operand} {y : Opd} (hx : opd x = some y) (hu : P.underlying t = some (.slice e)) (hi : P.info? e = some i) (lo hi' : Option Operand) (lo' hi'' : Option Opd)
  (hlo : (lo = none ∧ lo' = none) ∨ ∃ u v, lo = some u ∧ lo' = some v ∧ opd u = some v) (hhi : (hi' = none ∧ hi'' = none) ∨ ∃ u v, hi' = some u ∧ hi'' = some v ∧ opd u = some v)
  (ho : o.op = .slice t x lo hi' none) (hd : ∀ k, o.dst = some k → k < N) (hK : SGood (estep o.dst (.slc i.size y lo' hi'') s) (Serves w0 okA ext N K)) : o.wp P a w K Q := by
 simp only [estep] at hK
 split at hK
 ·rename_i fr z es hv hl hh
  split at hK
  ·rename_i hz; subst hz
   rcases hlo with ⟨rfl, rfl⟩ | ⟨u, v, rfl, rfl, _⟩
   ·rcases hhi with ⟨rfl, rfl⟩ | ⟨u, v, rfl, rfl, _⟩
    ·refine slc_core h hx hu hi none none ho hd hv (l := 0) (hh := es.length) (.inl ⟨rfl, rfl⟩) (.inl ⟨rfl, rfl⟩) (Nat.zero_le _) (Nat.le_refl _) ?_
     have hK' : Serves w0 okA ext N K _ := hK
     simpa using hK'
    ·simp at hh
   ·simp at hl
  ·exact hK.elim
 ·rename_i fr z es k l hv hl hh
  split at hK
  ·rename_i hz; subst hz
   obtain ⟨⟨h0, h1⟩, hK⟩ := hK
   rcases hlo with ⟨rfl, rfl⟩ | ⟨u, v, rfl, rfl, huv⟩
   ·simp at hl
   ·rcases hhi with ⟨rfl, rfl⟩ | ⟨u', v', rfl, rfl, _⟩
    ·have e1 := one_g (ev_rel h huv) (by simpa using hl)
     refine slc_core h hx hu hi (some u) none ho hd hv (l := l.toNat) (hh := es.length) (.inr ⟨k, l, by simp [e1], h0, rfl⟩) (.inl ⟨rfl, rfl⟩) (by omega) (Nat.le_refl _) ?_
     simpa using hK
    ·simp at hh
  ·exact hK.elim
 ·rename_i fr z es k m hv hl hh
  split at hK
  ·rename_i hz; subst hz
   obtain ⟨⟨h0, h1⟩, hK⟩ := hK
   rcases hlo with ⟨rfl, rfl⟩ | ⟨u, v, rfl, rfl, huv⟩
   ·rcases hhi with ⟨rfl, rfl⟩ | ⟨u', v', rfl, rfl, huv⟩
    ·simp at hh
    ·have e1 := one_g (ev_rel h huv) (by simpa using hh)
     refine slc_core h hx hu hi none (some u') ho hd hv (l := 0) (hh := m.toNat) (.inl ⟨rfl, rfl⟩) (.inr ⟨k, m, by simp [e1], h0, rfl⟩) (by omega) (by omega) ?_
     simpa using hK
   ·simp at hl
  ·exact hK.elim
 ·rename_i fr z es k l k' m hv hl hh
  split at hK
  ·rename_i hz; subst hz
   obtain ⟨⟨h0, h1, h2⟩, hK⟩ := hK
   rcases hlo with ⟨rfl, rfl⟩ | ⟨u, v, rfl, rfl, huv⟩
   ·simp at hl
   ·rcases hhi with ⟨rfl, rfl⟩ | ⟨u', v', rfl, rfl, huv'⟩
    ·simp at hh
    ·have e1 := one_g (ev_rel h huv) (by simpa using hl)
     have e2 := one_g (ev_rel h huv') (by simpa using hh)
     exact slc_core h hx hu hi (some u) (some u') ho hd hv (l := l.toNat) (hh := m.toNat) (.inr ⟨k, l, by simp [e1], h0, rfl⟩) (.inr ⟨k', m, by simp [e2], by omega, rfl⟩) (by omega) (by omega) hK
  ·exact hK.elim
 ·rename_i k ver k1 l k2 m hv hl hh
  split at hK
  ·rename_i r hs
   split at hK
   ·rename_i hcond
    obtain ⟨hver, hz⟩ := hcond
    obtain ⟨⟨h0, h1, h2, h9⟩, hK⟩ := hK
    rcases hlo with ⟨rfl, rfl⟩ | ⟨u1, v1, rfl, rfl, huv⟩
    ·simp at hl
    ·rcases hhi with ⟨rfl, rfl⟩ | ⟨u2, v2, rfl, rfl, huv'⟩
     ·simp at hh
     ·have e1 := one_g (ev_rel h huv) (by simpa using hl)
      have e2 := one_g (ev_rel h huv') (by simpa using hh)
      have hr := ev_rel h hx
      obtain ⟨_, ver', z, u, hm, hle, hu', hzp⟩ := one_c hr hv
      obtain ⟨_, _, u', vs, hm', hown, _⟩ := h.rwS hs (h.zpos hs hm hzp)
      have hm2 := hm
      rw [hm] at hm'
      simp only [Option.some.injEq, Prod.mk.injEq] at hm'
      obtain ⟨rfl, rfl, rfl⟩ := hm'
      have hx1 := hu' hver
      rcases hown.2 with ⟨_, h3⟩ | ⟨g, cap, cur, rfl, _, _, hnc, _⟩
      ·omega
      ·have hrun := run_slice_own (P := P) hu hi (a.eval x) (some (a.eval u1)) (some (a.eval u2)) hx1 hnc (l := l.toNat) (h := m.toNat) (.inr ⟨k1, l, by rw [e1], h0, rfl⟩) (.inr ⟨k2, m, by rw [e2], by omega, rfl⟩) (by omega) (by omega) w
       refine wp_value (v := .slice (if cap = l.toNat then some ⟨g, 0, none⟩ else (some (⟨g, 0, none⟩ : Addr)).map (·.add (l.toNat * i.size))) (m.toNat - l.toNat) (cap - l.toNat)) (w' := w) ?_ (hK _ _ E (h.put (.one ?_) hd))
       ·simp only [execOp, ho, Option.map_none, Option.map_some, Sem.run_bind, hrun]
        rfl
       ·split
        ·rename_i hcap
         exact ⟨rfl, r.ver, r.z, _, hm2, hle, fun _ => ⟨g, _, cap, _, _, rfl, by omega, by omega, rfl, by omega, fun hlt => by omega⟩, hzp⟩
        ·refine ⟨rfl, r.ver, r.z, _, hm2, hle, fun _ => ⟨g, _, cap, _, _, rfl, by omega, by omega, rfl, by omega, fun _ => ?_⟩, hzp⟩
         show (Addr.mk g 0 none).add (l.toNat * i.size) = _
         rw [add_none, Nat.zero_add, hz]
   ·exact hK.elim
  ·exact hK.elim
 ·exact hK.elim
/-! ### literals -/
theorem foldl_set (off : Nat) : ∀ (l : List Value) (k : Nat) (cells : Array Value), off + k + l.length ≤ cells.size →
  ((l.zipIdx k).foldl (fun cs (p : Value × Nat) => cs.setIfInBounds (off + p.2) p.1) cells).toList = wr cells.toList (off + k) l
 | [], k, cells, _ => by simp [wr]
 | v :: l, k, cells, h => by
  simp only [List.zipIdx_cons, List.foldl_cons]
  rw [foldl_set off l (k + 1) _ (by simp at h ⊢; omega)]
  simp only [Array.toList_setIfInBounds, wr, List.length_cons]
  have hlt : off + k < cells.toList.length := by simp at h ⊢; omega
  rw [show off + (k + 1) = off + k + 1 by omega]
  rw [List.take_set, List.drop_set_of_lt (by omega)]
  rw [List.take_succ_eq_append_getElem hlt, List.set_append_right _ _ (by simp; omega)]
  simp
  simp at hlt
  rw [show min (off + k) cells.size = off + k by omega]
  simp
  omega
theorem fill_cons {place : Nat → Option (Nat × Nat)} {cells : Array Value} {i off size : Nat} {v : Value} {rest : List (Nat × Value)} (hp : place i = some (off, size)) (hs : v.cells.size = size) (hl : off + size ≤ cells.size) :
  Instr.fill place cells ((i, v) :: rest) = Instr.fill place (wr cells.toList off v.cells.toList).toArray rest := by
 have h := foldl_set off v.cells.toList 0 cells (by simp; omega)
 have h2 : v.cells.zipIdx.foldl (fun cs (p : Value × Nat) => cs.setIfInBounds (off + p.2) p.1) cells = (wr cells.toList off v.cells.toList).toArray := by
  apply Array.ext'
  rw [← Array.foldl_toList, Array.toList_zipIdx, h]; simp
 simp only [Instr.fill, hp, hs]
 rw [if_neg (by simp; omega)]
 exact congrArg (fun c => Instr.fill place c rest) h2
theorem mapM_at {α β : Type} {f : α → Option β} : ∀ {l : List α} {r : List β}, l.mapM f = some r → ∀ {i : Nat} {x : α}, l[i]? = some x → r[i]? = f x
 | [], r, h, i, x, hx => by simp at hx
 | y :: l, r, h, i, x, hx => by
  simp only [List.mapM_cons, Option.bind_eq_bind, Option.bind_eq_some_iff, Option.pure_def, Option.some.injEq] at h
  obtain ⟨b, hb, bs, hbs, rfl⟩ := h
  match i with
  | 0 => simp at hx; subst hx; simpa using hb.symm
  | i + 1 => simpa using mapM_at hbs (i := i) (x := x) (by simpa using hx)
theorem mapM_len {α β : Type} {f : α → Option β} : ∀ {l : List α} {r : List β}, l.mapM f = some r → r.length = l.length
 | [], r, h => by simp at h; subst h; rfl
 | y :: l, r, h => by
  simp only [List.mapM_cons, Option.bind_eq_bind, Option.bind_eq_some_iff, Option.pure_def, Option.some.injEq] at h
  obtain ⟨b, hb, bs, hbs, rfl⟩ := h
  simpa using mapM_len hbs
theorem s_build (h : St w0 okA ext N s a w E) {t : TypeId} {z : List Value} {parts : Array (Nat × Operand)} {ps : List (Nat × Nat × Opd)} (hz : zeroOf P t = some z)
  (hps : parts.toList.mapM (fun p => match fieldOf P t p.1, opd p.2 with
   | some f, some x => (P.info? f.type).map fun i => (f.offset, i.size, x)
   | _, _ => none) = some ps) {places : List (Nat × Nat)} (hpl : placesOf P t = some places)
  (ho : o.op = .build t parts) (hd : ∀ k, o.dst = some k → k < N) (hK : SGood (estep o.dst (.build z ps) s) (Serves w0 okA ext N K)) : o.wp P a w K Q := by
 obtain ⟨iz, vz, hiz, hvz, hzc, hones⟩ := zero_of hz
 unfold placesOf at hpl
 split at hpl
 case h_2 => cases hpl
 rename_i fs hus
 simp only [estep] at hK
 have hat : ∀ (k : Nat) (f : Field) (i : TypeInfo), fs[k]? = some f → P.info? f.type = some i → places[k]? = some (f.offset, i.size) := fun k f i hf hi => by
  have := mapM_at hpl (i := k) (x := f) (by simpa using hf)
  rw [hi] at this; simpa using this
 let place : Nat → Option (Nat × Nat) := fun k => places[k]?
 have key : ∀ (l : List (Nat × Operand)) (ps : List (Nat × Nat × Opd)) (cs : List Cel) (cells : Array Value) (out : List Cel), CsRel w (okE w0 okA E) w0.heap.size E cs cells.toList →
   l.mapM (fun p => match fieldOf P t p.1, opd p.2 with
    | some f, some x => (P.info? f.type).map fun i => (f.offset, i.size, x)
    | _, _ => none) = some ps →
   ps.foldl (fun acc p => match acc, vcells (s.ev p.2.2) with
    | some cs, some news => if news.length = p.2.1 ∧ p.1 + p.2.1 ≤ cs.length then some (wr cs p.1 news) else none
    | _, _ => none) (some cs) = some out →
   ∃ cells', Instr.fill place cells (l.map fun p => (p.1, a.eval p.2)) = some cells' ∧ CsRel w (okE w0 okA E) w0.heap.size E out cells'.toList := by
  intro l
  induction l with
  | nil => intro ps cs cells out hc h1 h2; simp at h1; subst h1; simp at h2; subst h2; exact ⟨cells, rfl, hc⟩
  | cons p l ih =>
   intro ps cs cells out hc h1 h2
   simp only [List.mapM_cons, Option.bind_eq_bind, Option.bind_eq_some_iff, Option.pure_def, Option.some.injEq] at h1
   obtain ⟨q, hq, qs, hqs, rfl⟩ := h1
   split at hq
   ·rename_i f x hf hx
    simp only [Option.map_eq_some_iff] at hq
    obtain ⟨i, hi, rfl⟩ := hq
    simp only [List.foldl_cons] at h2
    cases hv : vcells (s.ev x) with
    | none =>
     rw [hv] at h2
     have : ∀ (l : List (Nat × Nat × Opd)), l.foldl (fun acc p => match acc, vcells (s.ev p.2.2) with
      | some cs, some news => if news.length = p.2.1 ∧ p.1 + p.2.1 ≤ cs.length then some (wr cs p.1 news) else none
      | _, _ => none) (none : Option (List Cel)) = none := by
      intro l; induction l with
      | nil => rfl
      | cons y l ih => simpa using ih
     simp only [this] at h2; cases h2
    | some news =>
     rw [hv] at h2
     simp only [] at h2
     by_cases hcond : news.length = i.size ∧ f.offset + i.size ≤ cs.length
     ·rw [if_pos hcond] at h2
      have hr := (ev_rel h hx).cells hv
      have hfs : fs[p.1]? = some f := by
       unfold fieldOf at hf; rw [hus] at hf; exact hf
      have hsz : (a.eval p.2).cells.size = i.size := by have := hr.1; simp at this; omega
      have hcl : cs.length = cells.size := by simpa using hc.1
      have hfill := fill_cons (place := place) (cells := cells) (i := p.1) (off := f.offset) (size := i.size) (v := a.eval p.2) (rest := l.map fun p => (p.1, a.eval p.2)) (hat _ _ _ hfs hi) hsz (by omega)
      obtain ⟨cells', h3, h4⟩ := ih qs _ (wr cells.toList f.offset (a.eval p.2).cells.toList).toArray out (by simpa using hc.wr hr) hqs h2
      exact ⟨cells', by rw [List.map_cons, hfill]; exact h3, h4⟩
     ·rw [if_neg hcond] at h2
      have : ∀ (l : List (Nat × Nat × Opd)), l.foldl (fun acc p => match acc, vcells (s.ev p.2.2) with
       | some cs, some news => if news.length = p.2.1 ∧ p.1 + p.2.1 ≤ cs.length then some (wr cs p.1 news) else none
       | _, _ => none) (none : Option (List Cel)) = none := by
       intro l; induction l with
       | nil => rfl
       | cons y l ih => simpa using ih
      simp only [this] at h2; cases h2
   ·cases hq
 split at hK
 ·rename_i out hout
  obtain ⟨cells', h3, h4⟩ := key parts.toList ps (z.map .g) vz.cells out (by rw [hzc]; exact CsRel.gs z hones) hps hout
  refine wp_value (v := .agg cells') (w' := w) ?_ (hK _ _ E (h.put (by simpa using VRel.ag h4) hd))
  have hb : P.built t ((parts.map fun (i, x) => (i, a.eval x)).toList) = some cells' := by
   unfold Program.built
   have h5 : (parts.map fun (i, x) => (i, a.eval x)).toList = parts.toList.map fun p => (p.1, a.eval p.2) := by simp
   rw [h5]
   simp only [hiz, hus, hvz, hpl]
   simpa [place] using h3
  simp only [execOp, ho, Sem.run_bind, run_build w t _ cells' hb, Result.andThen_ok]
  rfl
 ·exact hK.elim
theorem zip_of_idx {α β : Type} (f : α → β) : ∀ (l : List (Nat × α)) (st : Nat), l.map (·.1) = List.range' st l.length → l.map (fun p => (p.1, f p.2)) = (List.range' st (l.map fun p => f p.2).length).zip (l.map fun p => f p.2)
 | [], _, _ => by simp
 | p :: l, st, h => by
  simp only [List.map_cons, List.length_cons, List.range'_succ, List.cons.injEq] at h
  simp only [List.map_cons, List.length_cons, List.range'_succ, List.zip_cons_cons, h.1]
  rw [zip_of_idx f l (st + 1) h.2]
theorem fill_row (z : Nat) : ∀ (vs : List Value) (k : Nat) (cells : Array Value), (∀ v ∈ vs, v.cells.size = z) → cells.size = (k + vs.length) * z →
  Instr.fill (fun i => some (i * z, z)) cells ((List.range' k vs.length).zip vs) = some (cells.toList.take (k * z) ++ (vs.map fun v => v.cells.toList).flatten).toArray
 | [], k, cells, _, hs => by
  simp at hs
  have h9 : cells.toList.take (k * z) = cells.toList := List.take_of_length_le (by simp; omega)
  simp [Instr.fill, h9]
 | v :: vs, k, cells, hv, hs => by
  have hz : v.cells.size = z := hv v (by simp)
  have h1 : k * z + z + vs.length * z = cells.size := by rw [hs]; simp only [List.length_cons, Nat.add_mul]; omega
  simp only [List.length_cons, List.range'_succ, List.zip_cons_cons]
  rw [fill_cons (off := k * z) (size := z) rfl hz (by omega), fill_row z vs (k + 1) _ (fun v h => hv v (by simp [h])) (by simp [wr, hz]; rw [Nat.add_mul, Nat.add_mul]; omega)]
  congr 2
  have h2 : v.cells.toList.length = z := by simpa using hz
  rw [wr, List.take_append_of_le_length (by simp [hz]; rw [Nat.add_mul]; omega), List.take_of_length_le (by simp [hz]; rw [Nat.add_mul]; omega)]
  simp
theorem rrel_flatten {α : Type} {ok : Nat → Prop} {base : Nat} : ∀ (l : List α) (es : List (List Cel)) (f : α → List Value), es.length = l.length → (∀ (k : Nat) (p : α), l[k]? = some p → ∃ x, es[k]? = some x ∧ RRel w ok base x (f p)) → RRel w ok base es.flatten (l.map f).flatten
 | [], [], f, _, _ => .nil
 | [], _ :: _, _, h, _ => by simp at h
 | _ :: _, [], _, h, _ => by simp at h
 | p :: l, x :: es, f, hl, h => by
  obtain ⟨x', h1, h2⟩ := h 0 p rfl
  simp only [List.getElem?_cons_zero, Option.some.injEq] at h1; subst h1
  simp only [List.flatten_cons, List.map_cons]
  exact h2.append (rrel_flatten l es f (by simpa using hl) (fun k p hp => by simpa using h (k + 1) p (by simpa using hp)))
theorem s_bslice (h : St w0 okA ext N s a w E) {t e : TypeId} {i : TypeInfo} {len : Nat} {parts : Array (Nat × Operand)} {ps : List Opd} (hu : P.underlying t = some (.slice e)) (hi : P.info? e = some i) (hps : parts.toList.mapM (fun p => opd p.2) = some ps)
  (hidx : parts.toList.map (·.1) = List.range len) (hz0 : 0 < i.size) (hsm : len * i.size ≤ 16777216) (hl0 : 0 < len) (hzero : (i.zero.map (·.cells.size)) = some i.size)
  (ho : o.op = .buildSlice t len parts) (hd : ∀ k, o.dst = some k → k < N) (hK : SGood (estep o.dst (.bslice i.size len ps) s) (Serves w0 okA ext N K)) : o.wp P a w K Q := by
 simp only [estep] at hK
 split at hK
 ·rename_i es hes
  split at hK
  ·rename_i hcond
   simp only [Bool.and_eq_true, List.all_eq_true, decide_eq_true_eq] at hcond
   obtain ⟨hall, hlen⟩ := hcond
   have hplen : parts.toList.length = len := by have := mapM_len hps; omega
   have heslen : es.length = len := by have := mapM_len hes; omega
   -- each part's cells
   have hpart : ∀ (k : Nat) (p : Nat × Operand), parts.toList[k]? = some p → ∃ x : List Cel, es[k]? = some x ∧ RRel w (okE w0 okA E) w0.heap.size x (a.eval p.2).cells.toList ∧ x.length = i.size := fun k p hp => by
    have h1 := mapM_at hps hp
    have hk : k < ps.length := by have := (List.getElem?_eq_some_iff.1 hp).1; have := mapM_len hps; omega
    have h2 : ps[k]? = some ps[k] := List.getElem?_eq_getElem hk
    have h3 := mapM_at hes h2
    have hk' : k < es.length := by have := mapM_len hes; omega
    have h4 : es[k]? = some es[k] := List.getElem?_eq_getElem hk'
    rw [h4] at h3
    have h5 := (ev_rel h (h1.symm.trans h2)).cells h3.symm
    have h6 := hall es[k] (List.getElem_mem _)
    exact ⟨es[k], h4, RRel.of h5 h6.2, h6.1⟩
   have hrow : rowOk i.size es := fun x hx => by
    obtain ⟨k, hk⟩ := List.getElem?_of_mem hx
    have hlt : k < parts.toList.length := by have := (List.getElem?_eq_some_iff.1 hk).1; omega
    obtain ⟨x', h1, _, h2⟩ := hpart k _ (List.getElem?_eq_getElem hlt)
    rw [hk] at h1; injection h1 with h1; subst h1
    exact h2
   generalize hvs : (parts.toList.map fun p => (a.eval p.2).cells.toList).flatten = vs
   have hrel0 : RRel w (okE w0 okA E) w0.heap.size es.flatten vs := by
    subst hvs
    exact rrel_flatten parts.toList es (fun p => (a.eval p.2).cells.toList) (by omega) (fun k p hp => by obtain ⟨x, h1, h2, _⟩ := hpart k p hp; exact ⟨x, h1, h2⟩)
   obtain ⟨zv, hzv, hzs⟩ : ∃ zv, i.zero = some zv ∧ zv.cells.size = i.size := by
    cases hzz : i.zero with
    | none => rw [hzz] at hzero; cases hzero
    | some zv => rw [hzz] at hzero; exact ⟨zv, rfl, by simpa using hzero⟩
   have hzip : (parts.map fun (p : Nat × Operand) => (p.1, a.eval p.2)).toList = (List.range' 0 (parts.toList.map fun p => a.eval p.2).length).zip (parts.toList.map fun p => a.eval p.2) := by
    rw [Array.toList_map]
    exact zip_of_idx a.eval parts.toList 0 (by rw [hidx, hplen, List.range_eq_range'])
   have hfill := fill_row i.size (parts.toList.map fun p => a.eval p.2) 0 ((Array.range (len * i.size)).map (zv.cells[· % zv.cells.size]!)) (fun v hv => by
    simp only [List.mem_map] at hv
    obtain ⟨p, hp, rfl⟩ := hv
    obtain ⟨k, hk⟩ := List.getElem?_of_mem hp
    obtain ⟨x, _, h2, h3⟩ := hpart k p hk
    have := h2.1; simp at this; omega) (by simp [hplen])
   rw [← hzip] at hfill
   simp only [Nat.zero_mul, List.take_zero, List.nil_append, List.map_map] at hfill
   have hrun : (execOp a.eval o).run P w = .ok (.value (.slice (some ⟨w.heap.size, 0, none⟩) len len)) (w.alloc (.cells vs.toArray e)) := by
    have h3 : ((fun v : Value => v.cells.toList) ∘ fun p : Nat × Operand => a.eval p.2) = fun p => (a.eval p.2).cells.toList := rfl
    rw [h3, hvs] at hfill
    have h4 : ¬ (len * i.size > 2 ^ 24) := by simp; omega
    have h5 : ¬ (len * i.size = 0) := by
     intro h0; rcases Nat.mul_eq_zero.1 h0 with h | h <;> omega
    simp only [execOp, ho]
    rw [Array.toList_map] at hfill
    have h6 : ¬ (2 ^ 24 < len * i.size) := h4
    simp [Instr.buildSlice, run_underlying hu, sizeOf, typeInfo, hi, zeroValue, hzv, newRow, newObj]
    rw [if_neg (by simpa using h6), if_neg h5, hfill]
    simp [Sem.run]
   have hgr : w.grownBy (w.alloc (.cells vs.toArray e)) none := World.grownBy_alloc w _ _
   have hst := h.grown hgr
   refine wp_value hrun (hK _ _ E (hst.put (.one ?_) hd))
   have hvl : vs.length = len * i.size := by rw [← hrel0.1, flatten_len hrow, heslen]
   have hrel1 : RRel (w.alloc (.cells vs.toArray e)) (okE w0 okA E) w0.heap.size es.flatten vs := hrel0.move (.of_grown hgr) (fun _ _ h => h) (Nat.le_refl _)
   have hown : (w.alloc (.cells vs.toArray e)).ownsRow 0 e i.size (.slice (some ⟨w.heap.size, 0, none⟩) len len) len vs :=
    ⟨hvl, .inr ⟨w.heap.size, len, vs.toArray, rfl, Nat.zero_le _, heap_alloc_new w _, Nat.le_refl _, by simp only [maxLen]; have : len ≤ len * i.size := Nat.le_mul_of_pos_right _ hz0; omega, by simpa using hvl, by rw [← hvl]; simp⟩⟩
   exact (row_sl hrow hown heslen.symm hrel1 (fun b hb => by
    simp only [blkV, Value.ownBlock, Option.some.injEq] at hb; subst hb
    exact ⟨h.frame.size, fun k hk => by have := h.glt hk; omega, fun k ver z u hk hb => by have := h.rlt hk hb; omega, .inl h.frame.size⟩)).toC
  ·exact hK.elim
 ·exact hK.elim
end
end Go.Ai
namespace Go.Ai
open Go
set_option linter.unusedSimpArgs false
set_option linter.unusedVariables false
section
variable {P : Program} {w0 w w' : World} {okA okD : Nat → Prop} {base : Nat} {ext : Ext} {N : Nat} {s : AS} {a : Act} {E : Env} {o : Oper} {K : Act → World → Prop} {Q : Exit → Act → World → Prop}
theorem run_append_zero (base : Nat) (t ty e : TypeId) (i : TypeInfo) (size : Nat) (ht : P.underlying t = some (.slice e)) (hi : P.info? e = some i)
  (v : Value) (n : Nat) (xs : List Value) (hown : w.ownsRow base e size v n xs) (A : Option Addr) (c : Nat) : (Builtin.append_ #[t, t] ty #[v, .slice A 0 c]).run P w = .ok v w := by
 have h0 : ∀ A : Option Addr, (Builtin.firstCells i.size 0 (.slice A 0 c)).run P w = .ok #[] w := fun A => by
  cases A <;> simp [Builtin.firstCells, loadCells, loadCellsFrom]
 rcases hown.2 with ⟨rfl, rfl⟩ | ⟨g, cap, cur, rfl, _, _, hnc, _⟩
 ·simp [Builtin.append_, run_underlying ht, sizeOf, typeInfo, hi, Builtin.lenOf, h0]
 ·simp [Builtin.append_, run_underlying ht, sizeOf, typeInfo, hi, Builtin.lenOf, h0, hnc, storeCells]
/-- What lies where an appended slice points. -/
def SrcAt (w : World) (ok : Nat → Prop) (base z : Nat) (es : List (List Cel)) (v : Value) : Prop :=
 rowOk z es ∧ ∃ (A : Option Addr) (c : Nat) (us : List Value), v = .slice A es.length c ∧ RRel w ok base es.flatten us ∧ (es.length = 0 ∨ ∃ b off, A = some ⟨b, off, none⟩ ∧ ∀ j u, us[j]? = some u → w.cell? ⟨b, off + j, none⟩ = some u)
theorem dat_isD {ok : Nat → Prop} {c : Cel} {v : Value} (h : DRel w ok c v) : c.dat.isD = true ∧ CRel0 w ok base Env.none c.dat v := by
 cases h with
 | g hv => exact ⟨rfl, rfl, hv⟩
 | any hv => exact ⟨rfl, hv⟩
 | nil => exact ⟨rfl, DRel.nil⟩
 | sl us h1 h2 h3 h4 h5 h6 h7 => exact ⟨rfl, DRel.sl us h1 h2 h3 h4 h5 h6 h7⟩
 | fm cs h1 h2 h3 h4 h5 h6 => exact ⟨rfl, DRel.fm cs h1 h2 h3 h4 h5 h6⟩
 | ep us h1 h2 h3 h4 => exact ⟨rfl, _, _, us, rfl, h1, h2, fun j x hx => ⟨h3 j x hx, h4 j x hx⟩⟩
theorem tof_isD {ok : Nat → Prop} {c : Cel} {v : Value} (h : DRel w (fun b => base ≤ b ∧ ok b) c v) : c.tof.isD = true ∧ CRel0 w ok base Env.none c.tof v := by
 cases h with
 | g hv => exact ⟨rfl, rfl, hv⟩
 | any hv => exact ⟨rfl, hv⟩
 | nil => exact ⟨rfl, DRel.nil⟩
 | sl us h1 h2 h3 h4 h5 h6 h7 => exact ⟨rfl, DRel.sl us h1 h2 h3 h4 h5 h6 h7⟩
 | fm cs h1 h2 h3 h4 h5 h6 => exact ⟨rfl, DRel.keep (DRel.fm cs h1 h2 h3 h4 h5 h6) (.refl _ w) (fun b _ h => h.2)⟩
 | ep us h1 h2 h3 h4 => exact ⟨rfl, _, _, us, rfl, h1.2, h2, fun j x hx => ⟨h3 j x hx, (h4 j x hx).keep (.refl _ w) (fun b _ h => h.2)⟩⟩
theorem src_of_D {ok : Nat → Prop} {fr : Bool} {z : Nat} {es : List (List Cel)} {v : Value} (f : Cel → Cel) (hf : ∀ {c v}, DRel w okD c v → (f c).isD = true ∧ CRel0 w ok base Env.none (f c) v) (h : DRel w okD (.sl fr z es) v) :
  SrcAt w ok base z (es.map (List.map f)) v := by
 cases h with
 | @nil _ _ A c => exact ⟨fun e he => by simp at he, A, c, [], rfl, .nil, .inl rfl⟩
 | @sl _ _ _ b off n c us hn hc hb hlt hz hcell hrel =>
  have hro : rowOk z (es.map (List.map f)) := fun e he => by
   obtain ⟨e', h1, rfl⟩ := List.mem_map.1 he
   simpa using hz e' h1
  have hlen : (es.map (List.map f)).flatten.length = es.length * z := by rw [flatten_len hro]; simp
  have hat : ∀ {j : Nat} {c : Cel}, (es.map (List.map f)).flatten[j]? = some c → ∃ i k e x, es[i]? = some e ∧ e[k]? = some x ∧ c = f x ∧ j = i * z + k := fun {j c} hj => by
   obtain ⟨i, k, e, h1, h2, h3⟩ := flatten_inv hro hj
   rw [List.getElem?_map] at h1
   cases he : es[i]? with
   | none => rw [he] at h1; cases h1
   | some e0 =>
    rw [he] at h1; simp only [Option.map_some, Option.some.injEq] at h1; subst h1
    rw [List.getElem?_map] at h2
    cases hx : e0[k]? with
    | none => rw [hx] at h2; cases h2
    | some x => rw [hx] at h2; simp only [Option.map_some, Option.some.injEq] at h2; exact ⟨i, k, e0, x, he, hx, h2.symm, h3⟩
  refine ⟨hro, some ⟨b, off, none⟩, c, (List.range (es.length * z)).map (fun j => us (j / z) (j % z)), by simp [hn], ⟨by rw [hlen]; simp, fun j c u hj hu => ?_⟩, .inr ⟨b, off, rfl, fun j u hu => ?_⟩⟩
  ·obtain ⟨i, k, e, x, h1, h2, rfl, h3⟩ := hat hj
   have hk : k < z := by have := (List.getElem?_eq_some_iff.1 h2).1; have := hz e (List.mem_of_getElem? h1); omega
   have hlt' : j < es.length * z := by rw [← hlen]; exact (List.getElem?_eq_some_iff.1 hj).1
   rw [List.getElem?_map, List.getElem?_range hlt'] at hu
   simp only [Option.map_some, Option.some.injEq] at hu
   subst hu
   have e1 : j / z = i := by rw [h3, Nat.mul_comm, Nat.mul_add_div (by omega), Nat.div_eq_of_lt hk]; omega
   have e2 : j % z = k := by rw [h3, Nat.mul_comm, Nat.mul_add_mod, Nat.mod_eq_of_lt hk]
   rw [e1, e2]
   exact hf (hrel i e k x h1 h2)
  ·have hlt' : j < es.length * z := by have := (List.getElem?_eq_some_iff.1 hu).1; simpa using this
   rw [List.getElem?_map, List.getElem?_range hlt'] at hu
   simp only [Option.map_some, Option.some.injEq] at hu
   subst hu
   have hz0 : 0 < z := by rcases Nat.eq_zero_or_pos z with h | h; (subst h; simp at hlt'); exact h
   have hi : j / z < es.length := (Nat.div_lt_iff_lt_mul hz0).2 hlt'
   have hk : j % z < z := Nat.mod_lt _ hz0
   have he : es[j / z]? = some es[j / z] := List.getElem?_eq_getElem hi
   have hel : es[j / z].length = z := hz _ (List.getElem_mem _)
   have hx : es[j / z][j % z]? = some (es[j / z][j % z]'(by omega)) := List.getElem?_eq_getElem (by omega)
   have := hcell _ _ _ _ he hx
   rw [← this]
   congr 2
   have := Nat.div_add_mod j z
   rw [Nat.mul_comm] at this
   omega
theorem src_at (h : St w0 okA ext N s a w E) {x : Val} {v : Value} {z : Nat} {es : List (List Cel)} (hx : VRel w (okE w0 okA E) w0.heap.size E x v) (hs : s.src z x = some es) : SrcAt w (okE w0 okA E) w0.heap.size z es v := by
 unfold AS.src at hs
 split at hs
 ·rename_i fr z' es0
  split at hs
  ·rename_i hz; subst hz
   simp only [Option.some.injEq] at hs; subst hs
   have h1 := one_c hx rfl
   cases fr with
   | false => exact src_of_D Cel.dat dat_isD (show DRel w (okE w0 okA E) (.sl false z' es0) v from h1)
   | true => exact src_of_D Cel.tof tof_isD (show DRel w (fun b => w0.heap.size ≤ b ∧ okE w0 okA E b) (.sl true z' es0) v from h1)
  ·cases hs
 ·simp only [Option.some.injEq] at hs; subst hs
  rename_i c
  have := one_g hx rfl
  subst this
  exact ⟨fun e he => by simp at he, none, c, [], rfl, .nil, .inl rfl⟩
 ·rename_i k ver
  split at hs
  ·rename_i r hr
   split at hs
   ·rename_i hcond
    obtain ⟨hver, hz⟩ := hcond
    simp only [Option.some.injEq] at hs; subst hs
    obtain ⟨_, ver', z', u, hm, hle, hu, hzp⟩ := one_c hx rfl
    obtain ⟨_, hro, u', vs, hm', hown, hrel⟩ := h.rwS hr (h.zpos hr hm hzp)
    rw [hm] at hm'
    simp only [Option.some.injEq, Prod.mk.injEq] at hm'
    obtain ⟨rfl, rfl, rfl⟩ := hm'
    rw [hu hver]
    subst hz
    rcases hown.2 with ⟨rfl, h0⟩ | ⟨g, cap, cur, rfl, hb, hg, hnc, hcm, hcs, htake⟩
    ·exact ⟨hro, none, 0, vs, by rw [h0], hrel, .inl h0⟩
    ·refine ⟨hro, some ⟨g, 0, none⟩, cap, vs, rfl, hrel, .inr ⟨g, 0, rfl, fun j u hj => ?_⟩⟩
     have := hown.cells (g := g) rfl _ _ hj
     rw [add_none] at this; exact this
   ·cases hs
  ·cases hs
 ·cases hs
theorem s_append (h : St w0 okA ext N s a w E) {t e : TypeId} {i : TypeInfo} {x x' : Operand} {y y' : Opd} (hx : opd x = some y) (hx' : opd x' = some y') (hu : P.underlying t = some (.slice e)) (hi : P.info? e = some i)
  (hzero : (i.zero.map (·.cells.size)) = some i.size)
  (ho : o.op = .call { callee := .builtin .append, args := #[x, x'], argTypes := #[t, t] }) (hd : ∀ k, o.dst = some k → k < N) (hK : SGood (estep o.dst (.append e i.size i.bytes y y') s) (Serves w0 okA ext N K)) : o.wp P a w K Q := by
 simp only [estep] at hK
 have hr := ev_rel h hx
 have hr' := ev_rel h hx'
 split at hK
 ·rename_i k ver es hv hv'
  split at hK
  ·rename_i r hs
   split at hK
   ·rename_i hcond
    obtain ⟨hver, he, hz⟩ := hcond
    obtain ⟨⟨hby, h63⟩, hK⟩ := hK
    obtain ⟨_, ver', z', u, hm, hle, hu', hzp⟩ := one_c hr hv
    obtain ⟨hzr, hrow, u', vs, hm', hown, hrel⟩ := h.rwS hs (h.zpos hs hm hzp)
    have hm2 := hm
    rw [hm] at hm'
    simp only [Option.some.injEq, Prod.mk.injEq] at hm'
    obtain ⟨rfl, rfl, rfl⟩ := hm'
    have hx1 := hu' hver
    subst he
    obtain ⟨zv, hzv, hzs⟩ : ∃ zv, i.zero = some zv ∧ zv.cells.size = i.size := by
     cases hzz : i.zero with
     | none => rw [hzz] at hzero; cases hzero
     | some zv => rw [hzz] at hzero; exact ⟨zv, rfl, by simpa using hzero⟩
    obtain ⟨hro, A, c, us, hval, hrel', hcells⟩ := src_at h hr' hv'
    rw [hz] at hro
    -- the call, whatever is appended
    have key : ∃ u1 w1, (Builtin.append_ #[t, t] o.type #[u, a.eval x']).run P w = .ok u1 w1 ∧ w1.ownsRow 0 r.E r.z u1 (r.es.length + es.length) (vs ++ us) ∧ w.grownBy w1 (blkV u) ∧
      ((blkV u1) = (blkV u) ∨ (blkV u1) = some w.heap.size) := by
     have hul : us.length = es.length * r.z := by rw [← hrel'.1, flatten_len hro]
     rw [hval]
     rcases hcells with h0 | ⟨b, off, rfl, hc⟩
     ·have e1 : us = [] := by apply List.eq_nil_of_length_eq_zero; rw [hul, h0]; simp
      subst e1
      rw [h0]
      refine ⟨u, w, run_append_zero 0 t o.type r.E i r.z hu hi u _ _ hown A c, by simpa using hown, World.grownBy.refl _ _, .inl rfl⟩
     ·obtain ⟨u1, w1, hrun, h2, h3, _, h5⟩ := run_append_own_at (P := P) w 0 t o.type r.E i zv r.z i.bytes hu hi hzv hz rfl (by omega) hzr u _ _ hown ⟨b, off, none⟩ es.length c us hul (fun j uu hj => by
       rw [add_none]; exact hc j uu hj) hrel'.ones (by simp only [maxLen]; omega) hby (Nat.zero_le _)
      exact ⟨u1, w1, hrun, h2, by rw [row_blkV hown]; exact h3, by rw [row_blkV h2, row_blkV hown]; exact h5⟩
    obtain ⟨u1, w1, hrun, hown1, hgr1, hat1⟩ := key
    have hst := h.rowTurn (r' := { r with ver := r.ver + 1, es := r.es ++ es }) (u' := u1) (vs' := vs ++ us) hzr hs hm2 rfl (Nat.le_succ _) (fun h => by simp at h) (fun e he => by
     rcases List.mem_append.1 he with h1 | h1
     ·exact hrow e h1
     ·exact hro e h1) hgr1 (by simpa using hown1) (by simpa using hrel.append hrel') hat1
    have hone : u1.oneCell' = true := by
     rcases hown1.2 with ⟨rfl, _⟩ | ⟨g, cap, cur, rfl, _⟩ <;> rfl
    refine wp_value (v := u1) (w' := w1) ?_ (hK _ _ _ (hst.put (.one ⟨hone, r.ver + 1, r.z, u1, by simp [upd_same], Nat.le_refl _, fun _ => rfl, hzr⟩) hd))
    simp [execOp, ho, resolve, invoke, builtin, hx1, hrun]
   ·exact hK.elim
  ·exact hK.elim
 ·exact hK.elim
theorem appStrOf_is {e t' : TypeId} {i : TypeInfo} {x y : Opd} {ins : Ins} (h : appStrOf P e t' i x y = some ins) : ∃ n, ins = .append e 1 1 x (.b n) := by
 unfold appStrOf at h
 split at h
 ·split at h
  ·simp only [Option.some.injEq] at h; exact ⟨_, h.symm⟩
  ·cases h
 ·cases h
theorem isU8_of {i : TypeInfo} (h : isU8 i = true) : i.zero = some (.int .u8 0) ∧ i.size = 1 ∧ i.bytes = 1 := by
 unfold isU8 at h
 split at h
 ·rename_i n hz
  obtain ⟨rfl, h1, h2⟩ := of_decide_eq_true h
  exact ⟨hz, h1, h2⟩
 ·cases h
theorem isStrT_of {t : TypeId} (h : isStrT P t = true) : P.underlying t = some .string := by
 unfold isStrT at h
 split at h
 ·assumption
 ·cases h
open Go.Lib in
/-- append of a string to a row of bytes, and where the new row lies. -/
theorem app_strL (t u ty e : TypeId) (i : TypeInfo) (ht : P.underlying t = some (.slice e)) (hu : P.underlying u = some .string) (hi : P.info? e = some i) (hz : i.zero = some (.int .u8 0)) (hsize : i.size = 1) (hby : i.bytes = 1)
  (v : Value) (n : Nat) (xs : List Value) (hown : w.ownsRow 0 e 1 v n xs) (s : ByteArray) (h63 : n + s.size ≤ maxLen) (hbytes : n + s.size ≤ 140737488355328) :
  ∃ v' w', (Builtin.append_ #[t, u] ty #[v, .string s]).run P w = .ok v' w' ∧ w'.ownsRow 0 e 1 v' (n + s.size) (xs ++ strCells s) ∧ w.grownBy w' v.ownBlock ∧ (v'.ownBlock = v.ownBlock ∨ v'.ownBlock = some w.heap.size) := by
 obtain ⟨v', w', h1, h2, h3, h4⟩ := run_append_own_string (P := P) w 0 t u ty e i ht hu hi hz hsize hby v n xs hown s h63 hbytes (Nat.zero_le _)
 refine ⟨v', w', h1, h2, h3, ?_⟩
 have hsmall : n + s.size ≤ 9223372036854775807 := by simp only [maxLen] at h63; omega
 have hxl : xs.length = n := by simpa using hown.1
 rcases hown.2 with ⟨rfl, rfl⟩ | ⟨g, cap, cur, rfl, hbg, hg, hnc, hcm, hcs, htake⟩
 ·by_cases hm : s.size = 0
  ·have : v' = .slice none 0 0 := h4.2 ⟨rfl, hm⟩
   subst this; exact .inl rfl
  ·have hr := run_append_nil_string (P := P) w t u ty e i (.int .u8 0) ht hu hi hz s (by omega) (by omega) (by rw [hby]; omega)
   rw [h1] at hr
   injection hr with hr _
   rw [hr]; exact .inr rfl
 ·by_cases hroom : n + s.size ≤ cap
  ·have hcs' : cur.size = cap := by simpa using hcs
   have hr := run_append_room_string (P := P) w t u ty e i ht hu hi hsize g n cap cur hg s hroom (by omega)
   rw [h1] at hr
   injection hr with hr _
   rw [hr]; exact .inl rfl
  ·have holds : ∀ j u, xs[j]? = some u → w.cell? ((⟨g, 0, none⟩ : Addr).add j) = some u := hown.cells (g := g) rfl
   have hr := run_append_grow_string (P := P) w t u ty e i (.int .u8 0) ht hu hi hz ⟨g, 0, none⟩ n cap xs (by rw [hsize]; simpa using hxl) holds s (by omega) (by omega) (by rw [hby]; exact growslice_fits (by omega) (by omega))
   rw [h1] at hr
   injection hr with hr _
   rw [hr]; exact .inr rfl
theorem tof_strE (b : ByteArray) : tofE (strE b) = strE b := by
 unfold tofE strE
 rw [List.map_map]
 rfl
theorem strE_len (b : ByteArray) : (strE b).length = b.size := by unfold strE; rw [List.length_map, Array.length_toList]; rfl
theorem strE_rel {ok : Nat → Prop} {base : Nat} (b : ByteArray) : RRel w ok base (strE b).flatten (Lib.strCells b) := by
 unfold strE Lib.strCells
 generalize b.data.toList = l
 induction l with
 | nil => exact .nil
 | cons x l ih => exact RRel.append (cs := [.g (.int .u8 (x.toNat : Int))]) (us := [.int .u8 (x.toNat : Int)]) ⟨rfl, fun i c u h1 h2 => by
   match i with
   | 0 => simp at h1 h2; subst h1; subst h2; exact ⟨rfl, rfl, rfl⟩
   | i + 1 => simp at h1⟩ ih
theorem s_appstr (h : St w0 okA ext N s a w E) {t t' e : TypeId} {i : TypeInfo} {x x' : Operand} {y : Opd} {n : Nat} (hx : opd x = some y) (hx' : opd x' = some (.t n)) (hu : P.underlying t = some (.slice e)) (hu' : P.underlying t' = some .string) (hi : P.info? e = some i)
  (hz0 : i.zero = some (.int .u8 0)) (hsz : i.size = 1) (hby : i.bytes = 1)
  (ho : o.op = .call { callee := .builtin .append, args := #[x, x'], argTypes := #[t, t'] }) (hd : ∀ k, o.dst = some k → k < N) (hK : SGood (estep o.dst (.append e 1 1 y (.b n)) s) (Serves w0 okA ext N K)) : o.wp P a w K Q := by
 simp only [estep] at hK
 have hr := ev_rel h hx
 have hr' : VRel w (okE w0 okA E) w0.heap.size E (s.tm n) (a.eval x') := ev_rel h hx'
 split at hK
 ·rename_i k ver es hv hv'
  obtain ⟨b, hb, rfl⟩ : ∃ b, s.tm n = .one (.g (.string b)) ∧ es = strE b := by
   simp only [AS.ev] at hv'
   unfold strV at hv'
   split at hv'
   ·rename_i b hb
    refine ⟨b, hb, ?_⟩
    simp only [AS.src, if_true, tof_strE, Option.some.injEq] at hv'
    exact hv'.symm
   ·simp [AS.src] at hv'
  have hstr := one_g hr' hb
  split at hK
  ·rename_i r hs
   split at hK
   ·rename_i hcond
    obtain ⟨hver, he, hz⟩ := hcond
    obtain ⟨⟨hby', h63⟩, hK⟩ := hK
    obtain ⟨_, ver', z', u, hm, hle, hu2, hzp⟩ := one_c hr hv
    obtain ⟨hzr, hrow, u', vs, hm', hown, hrel⟩ := h.rwS hs (h.zpos hs hm hzp)
    have hm2 := hm
    rw [hm] at hm'
    simp only [Option.some.injEq, Prod.mk.injEq] at hm'
    obtain ⟨rfl, rfl, rfl⟩ := hm'
    have hx1 := hu2 hver
    subst he
    rw [strE_len] at hby' h63
    have hown0 : w.ownsRow 0 r.E 1 u r.es.length vs := by rw [hz]; exact hown
    obtain ⟨u1, w1, hrun, hown1, hgr1, hat1⟩ := app_strL (P := P) (w := w) t t' o.type r.E i hu hu' hi hz0 hsz hby u _ _ hown0 b (by simp only [maxLen]; omega) (by omega)
    rw [hz] at hown1
    rw [← row_blkV hown, ← row_blkV hown1] at hat1
    rw [← row_blkV hown] at hgr1
    have hst := h.rowTurn (r' := { r with ver := r.ver + 1, es := r.es ++ strE b }) (u' := u1) (vs' := vs ++ Lib.strCells b) hzr hs hm2 rfl (Nat.le_succ _) (fun h => by simp at h) (fun e he => by
     rcases List.mem_append.1 he with h1 | h1
     ·exact hrow e h1
     ·rw [← hz]; obtain ⟨c, _, rfl⟩ := List.mem_map.1 h1; rfl) hgr1 (by simpa [strE_len] using hown1) (by simpa using hrel.append (strE_rel b)) hat1
    have hone : u1.oneCell' = true := by
     rcases hown1.2 with ⟨rfl, _⟩ | ⟨g, cap, cur, rfl, _⟩ <;> rfl
    refine wp_value (v := u1) (w' := w1) ?_ (hK _ _ _ (hst.put (.one ⟨hone, r.ver + 1, r.z, u1, by simp [upd_same], Nat.le_refl _, fun _ => rfl, hzr⟩) hd))
    rw [← hstr] at hrun
    simp [execOp, ho, resolve, invoke, builtin, hx1, hrun]
   ·exact hK.elim
  ·exact hK.elim
 ·exact hK.elim
/-! ### calls -/
/-- Nothing of the call's own memory is shown by this argument. -/
def plainC (c : Cel) : Bool := match c with | .g _ | .sl _ _ _ | .ep _ | .fm _ _ | .any => true | .fn _ caps => caps.all (fun c => match c with | .g _ => true | _ => false) | _ => false
def plainV : Val → Bool
 | .one c => plainC c
 | .ag cs => cs.all plainC
 | .tu _ => true
 | .any => true
def freshV : Val → Bool
 | .one c => freshC c
 | .ag cs => cs.all freshC
 | .tu vs => vs.all fun v => match v with | .one c => freshC c | .ag cs => cs.all freshC | .any => true | .tu _ => false
 | .any => true
/-- A result whose parts are data. -/
def capD (c : Cel) : Bool := match c with | .g _ | .ep _ => true | _ => false
def dataRC (c : Cel) : Bool := match c with | .g _ | .sl _ _ _ | .ep _ | .fm _ _ | .any => true | .fn _ caps => caps.all capD | _ => false
def dataRV : Val → Bool
 | .one c => dataRC c
 | .ag cs => cs.all dataRC
 | .tu vs => vs.all fun v => match v with | .one c => dataRC c | .ag cs => cs.all dataRC | .any => true | .tu _ => false
 | .any => true
theorem view_relC (h : St w0 okA ext N s a w E) {c : Cel} {v : Value} {ok' : Nat → Prop} {base' : Nat} {E' : Env} (hc : CRel w (okE w0 okA E) w0.heap.size E c v) (hw : ∀ b, okE w0 okA E b → ok' b)
  (hrow : ∀ k ver z u b, s.rw k ≠ none → E.rm k = some (ver, z, u) → (blkV u) = some b → ok' b) (hbox : ∀ k g, s.bx k ≠ none → E.gm k = some g → ok' g) : CRel w ok' base' E' (s.viewC c) v := by
 have key : ∀ {c}, CRel0 w ok' base' E' c v → CRel w ok' base' E' c v := fun {c} h => by cases c <;> first | exact h | exact h.elim
 cases c with
 | fn f caps =>
  obtain ⟨us, rfl, hl, hcs⟩ := hc
  refine ⟨us, rfl, by simpa using hl, fun i c u h1 h2 => ?_⟩
  rw [List.getElem?_map] at h1
  cases hi : caps[i]? with
  | none => rw [hi] at h1; cases h1
  | some c0 => rw [hi] at h1; simp at h1; subst h1; exact view_rel0 h (hcs i c0 u hi h2) hw hw hrow hbox
 | mv f caps => exact hc.oneC
 | g u => exact key (view_rel0 h (base := w0.heap.size) (c := .g u) hc hw hw hrow hbox)
 | sl fr z es => exact key (view_rel0 h (base := w0.heap.size) (c := .sl fr z es) hc hw hw hrow hbox)
 | ep cs => exact key (view_rel0 h (base := w0.heap.size) (c := .ep cs) hc hw hw hrow hbox)
 | bx k off => exact key (view_rel0 h (base := w0.heap.size) (c := .bx k off) hc hw hw hrow hbox)
 | ow k ver => exact key (view_rel0 h (base := w0.heap.size) (c := .ow k ver) hc hw hw hrow hbox)
 | op k ver i off => exact key (view_rel0 h (base := w0.heap.size) (c := .op k ver i off) hc hw hw hrow hbox)
 | os k ver lo => exact key (view_rel0 h (base := w0.heap.size) (c := .os k ver lo) hc hw hw hrow hbox)
 | ws k ver lo hi => exact key (view_rel0 h (base := w0.heap.size) (c := .ws k ver lo hi) hc hw hw hrow hbox)
 | mp k => exact key (view_rel0 h (base := w0.heap.size) (c := .mp k) hc hw hw hrow hbox)
 | fm kc es => exact key (view_rel0 h (base := w0.heap.size) (c := .fm kc es) hc hw hw hrow hbox)
 | any => exact key (view_rel0 h (base := w0.heap.size) (c := .any) hc hw hw hrow hbox)
theorem view_relV (h : St w0 okA ext N s a w E) {x : Val} {v : Value} {ok' : Nat → Prop} {base' : Nat} {E' : Env} (hx : VRel w (okE w0 okA E) w0.heap.size E x v) (hw : ∀ b, okE w0 okA E b → ok' b)
  (hrow : ∀ k ver z u b, s.rw k ≠ none → E.rm k = some (ver, z, u) → (blkV u) = some b → ok' b) (hbox : ∀ k g, s.bx k ≠ none → E.gm k = some g → ok' g) : VRel w ok' base' E' (s.view x) v := by
 cases hx with
 | one h1 => exact .one (view_relC h h1 hw hrow hbox)
 | @ag cs us h1 =>
  refine .ag ⟨by simpa using h1.1, fun i c u h2 h3 => ?_⟩
  rw [List.getElem?_map] at h2
  cases hi : cs[i]? with
  | none => rw [hi] at h2; cases h2
  | some c0 => rw [hi] at h2; simp at h2; subst h2; exact view_relC h (h1.2 i c0 u hi h3) hw hrow hbox
 | tu => exact .any
 | any => exact .any
/-- A plain argument shows no memory of the call's own. -/
theorem plain_relC {c : Cel} {v : Value} {base' : Nat} {E' : Env} (hc : CRel w (okE w0 okA E) w0.heap.size E c v) (hp : plainC c = true) : CRel w (okE w0 okA E) base' E' (s.viewC c) v := by
 cases c with
 | g u => exact hc
 | sl fr z es =>
  have hd : DRel w (okE w0 okA E) (.sl false z es) v := by
   have h2 : DRel w (okE w0 okA E) (.sl fr z es) v := by
    cases fr with
    | false => exact hc
    | true => exact DRel.keep (ok := fun b => w0.heap.size ≤ b ∧ okE w0 okA E b) hc (.refl _ w) (fun b _ h => h.2)
   cases h2 with
   | nil => exact .nil
   | sl us h1 h2 h3 h4 h5 h6 h7 => exact .sl us h1 h2 h3 h4 h5 h6 h7
  exact hd
 | ep cs => exact hc
 | any => exact hc
 | fn f caps =>
  obtain ⟨us, rfl, hl, hcs⟩ := hc
  refine ⟨us, rfl, by simpa using hl, fun i c u h1 h2 => ?_⟩
  rw [List.getElem?_map] at h1
  cases hi : caps[i]? with
  | none => rw [hi] at h1; cases h1
  | some c0 =>
   rw [hi] at h1; simp at h1; subst h1
   have h3 := List.all_eq_true.1 hp c0 (List.mem_of_getElem? hi)
   have h4 := hcs i c0 u hi h2
   cases c0 <;> simp at h3
   exact h4
 | mv f caps => cases hp
 | bx k off => cases hp
 | ow k ver => cases hp
 | op k ver i off => cases hp
 | os k ver lo => cases hp
 | ws k ver lo hi => cases hp
 | mp k => cases hp
 | fm kc es => exact hc
theorem plain_relCs {cs : List Cel} {us : List Value} {base' : Nat} {E' : Env} (h1 : CsRel w (okE w0 okA E) w0.heap.size E cs us) (hp : cs.all plainC = true) : CsRel w (okE w0 okA E) base' E' (cs.map s.viewC) us := by
 refine ⟨by simpa using h1.1, fun i c u h2 h3 => ?_⟩
 rw [List.getElem?_map] at h2
 cases hi : cs[i]? with
 | none => rw [hi] at h2; cases h2
 | some c0 => rw [hi] at h2; simp at h2; subst h2; exact plain_relC (h1.2 i c0 u hi h3) (List.all_eq_true.1 hp c0 (List.mem_of_getElem? hi))
theorem plain_relV {x : Val} {v : Value} {base' : Nat} {E' : Env} (hx : VRel w (okE w0 okA E) w0.heap.size E x v) (hp : plainV x = true) : VRel w (okE w0 okA E) base' E' (s.view x) v := by
 cases hx with
 | one h1 => exact .one (plain_relC h1 hp)
 | ag h1 => exact .ag (plain_relCs h1 hp)
 | tu => exact .any
 | any => exact .any
/-- What a callee hands back, in the caller's words. -/
theorem back_relC (h : St w0 okA ext N s a w E) {c : Cel} {v : Value} {ok' : Nat → Prop} (hc : CRel w' ok' w.heap.size Env.none c v) (hok : ∀ b, w.heap.size ≤ b → ok' b → okE w0 okA E b) (hcond : freshC c = true ∨ (dataRC c = true ∧ ∀ b, ok' b → okE w0 okA E b)) :
  CRel w' (okE w0 okA E) w0.heap.size E c v := by
 have hsz := h.frame.size
 cases c with
 | g u => exact hc
 | any => exact hc
 | sl fr z es =>
  cases fr with
  | true => exact DRel.keep (ok := fun b => w.heap.size ≤ b ∧ ok' b) hc (.refl _ w') (fun b _ hb => ⟨Nat.le_trans hsz hb.1, hok b hb.1 hb.2⟩)
  | false =>
   rcases hcond with h1 | h1
   ·cases h1
   ·exact DRel.keep hc (.refl _ w') (fun b _ hb => h1.2 b hb)
 | ep cs =>
  rcases hcond with h1 | h1
  ·cases h1
  ·obtain ⟨b, off, us, rfl, h2, h3, h4⟩ := hc
   exact ⟨b, off, us, rfl, h1.2 b h2, h3, fun j x hx => ⟨(h4 j x hx).1, (h4 j x hx).2.keep (.refl _ w') (fun b _ hb => h1.2 b hb)⟩⟩
 | bx k off => rcases hcond with h1 | h1 <;> simp [freshC, dataRC] at h1
 | ow k ver => rcases hcond with h1 | h1 <;> simp [freshC, dataRC] at h1
 | op k ver i off => rcases hcond with h1 | h1 <;> simp [freshC, dataRC] at h1
 | os k ver lo => rcases hcond with h1 | h1 <;> simp [freshC, dataRC] at h1
 | ws k ver lo hi => rcases hcond with h1 | h1 <;> simp [freshC, dataRC] at h1
 | mp k => rcases hcond with h1 | h1 <;> simp [freshC, dataRC] at h1
 | fm kc es =>
  rcases hcond with h1 | h1
  ·cases h1
  ·exact DRel.keep hc (.refl _ w') (fun b _ hb => h1.2 b hb)
 | fn f caps =>
  rcases hcond with h1 | h1
  ·cases h1
  ·obtain ⟨us, rfl, hl, hcs⟩ := hc
   refine ⟨us, rfl, hl, fun i c u h2 h3 => ?_⟩
   have h4 := List.all_eq_true.1 h1.1 c (List.mem_of_getElem? h2)
   have h5 := hcs i c u h2 h3
   cases c with
   | g u => exact h5
   | ep cs =>
    obtain ⟨b, off, us, rfl, h6, h7, h8⟩ := h5
    exact ⟨b, off, us, rfl, h1.2 b h6, h7, fun j x hx => ⟨(h8 j x hx).1, (h8 j x hx).2.keep (.refl _ w') (fun b _ hb => h1.2 b hb)⟩⟩
   | _ => cases h4
 | mv f caps => rcases hcond with h1 | h1 <;> simp [freshC, dataRC] at h1
theorem back_relV (h : St w0 okA ext N s a w E) {x : Val} {v : Value} {ok' : Nat → Prop} (hx : VRel w' ok' w.heap.size Env.none x v) (hok : ∀ b, w.heap.size ≤ b → ok' b → okE w0 okA E b) (hcond : freshV x = true ∨ (dataRV x = true ∧ ∀ b, ok' b → okE w0 okA E b)) :
  VRel w' (okE w0 okA E) w0.heap.size E x v := by
 have hag : ∀ {cs us}, CsRel w' ok' w.heap.size Env.none cs us → (cs.all freshC = true ∨ (cs.all dataRC = true ∧ ∀ b, ok' b → okE w0 okA E b)) → CsRel w' (okE w0 okA E) w0.heap.size E cs us := fun {cs us} h1 hc =>
  ⟨h1.1, fun i c u h2 h3 => back_relC h (h1.2 i c u h2 h3) hok (hc.imp (fun h => List.all_eq_true.1 h c (List.mem_of_getElem? h2)) (fun h => ⟨List.all_eq_true.1 h.1 c (List.mem_of_getElem? h2), h.2⟩))⟩
 cases hx with
 | one h1 => exact .one (back_relC h h1 hok hcond)
 | ag h1 => exact .ag (hag h1 hcond)
 | @tu vs us hl h1 =>
  refine .tu hl fun i x u h2 h3 => ?_
  have h4 := h1 i x u h2 h3
  have h5 : (match x with | .one c => freshC c = true | .ag cs => cs.all freshC = true | .any => True | .tu _ => False) ∨ ((match x with | .one c => dataRC c = true | .ag cs => cs.all dataRC = true | .any => True | .tu _ => False) ∧ ∀ b, ok' b → okE w0 okA E b) := by
   rcases hcond with h6 | h6
   ·have := List.all_eq_true.1 h6 x (List.mem_of_getElem? h2)
    left; cases x <;> simp_all
   ·have := List.all_eq_true.1 h6.1 x (List.mem_of_getElem? h2)
    right; refine ⟨?_, h6.2⟩; cases x <;> simp_all
  cases h4 with
  | one h7 => exact .one (back_relC h h7 hok h5)
  | ag h7 => exact .ag (hag h7 h5)
  | tu => rcases h5 with h5 | h5 <;> simp at h5
  | any => exact .any
 | any => exact .any
/-- Behind a callee that only reads. -/
theorem St.called (h : St w0 okA ext N s a w E) (hg : w.grownBy w' none) {d : Option Nat} {x : Val} {v : Value} {ok' : Nat → Prop} (hx : VRel w' ok' w.heap.size Env.none x v)
  (hcond : freshV x = true ∨ (dataRV x = true ∧ ∀ b, ok' b → okE w0 okA E b)) (hd : ∀ k, d = some k → k < N) : St w0 okA ext N (s.put d x) (a.put d v) w' E := by
 refine (h.grown hg).put (back_relV h hx (fun b hb _ => ⟨fun k hk => ?_, fun k ver z u hk hu => ?_, .inl (Nat.le_trans h.frame.size hb)⟩) hcond) hd
 ·have := h.glt hk; omega
 ·have := h.rlt hk hu; omega
end
end Go.Ai
namespace Go.Ai
open Go
set_option linter.unusedSimpArgs false
set_option linter.unusedVariables false
theorem eqL_append : ∀ {ks ls : List KTy} {cs ds : List Cel} {r : Bool}, eqL (ks ++ ls) cs ds = some r →
  ∃ r1 r2, eqL ks (cs.take ks.length) (ds.take ks.length) = some r1 ∧ eqL ls (cs.drop ks.length) (ds.drop ks.length) = some r2 ∧ r = (r1 && r2)
 | [], ls, cs, ds, r, h => ⟨true, r, rfl, by simpa using h, by simp⟩
 | k :: ks, ls, [], ds, r, h => by simp [eqL] at h
 | k :: ks, ls, c :: cs, [], r, h => by simp [eqL] at h
 | k :: ks, ls, c :: cs, d :: ds, r, h => by
  simp only [List.cons_append, eqL] at h
  cases h1 : eqK k c d with
  | none => rw [h1] at h; cases h
  | some a =>
   rw [h1] at h
   cases h2 : eqL (ks ++ ls) cs ds with
   | none => rw [h2] at h; cases h
   | some b =>
    rw [h2] at h
    simp only [Option.some.injEq] at h
    obtain ⟨r1, r2, h3, h4, h5⟩ := eqL_append h2
    refine ⟨a && r1, r2, ?_, by simpa using h4, ?_⟩
    ·simp [eqL, h1, h3]
    ·rw [← h, h5, Bool.and_assoc]
section
variable {P : Program}
/-- A value of a type out of its cells. -/
def valOf (P : Program) (t : TypeId) (xs : List Value) : Value :=
 match P.underlying t with
 | some (.struct _) => .agg xs.toArray
 | _ => xs.headD .nilIface
theorem run_part_of {e : TypeId} {i : TypeInfo} {d : TypeDesc} (hu : P.underlying e = some d) (hi : P.info? e = some i) (hk : (∃ fs, d = .struct fs) ∨ d = .bool ∨ (∃ k, d = .int k) ∨ d = .string) {xs : List Value} {off : Nat} (hl : off + i.size ≤ xs.length) (h1 : (∃ fs, d = .struct fs) ∨ i.size = 1) (w : World) :
  (part e xs.toArray off).run P w = .ok (valOf P e ((xs.drop off).take i.size)) w := by
 rcases hk with ⟨fs, rfl⟩ | rfl | ⟨k, rfl⟩ | rfl
 ·have e1 : xs.toArray.extract off (off + i.size) = ((xs.drop off).take i.size).toArray := by
   apply Array.ext'; simp
  simp [part, isAgg, run_underlying hu, sizeOf, typeInfo, hi, valOf, hu]
 all_goals
  have h2 : i.size = 1 := by rcases h1 with ⟨fs, h1⟩ | h1; (cases h1); exact h1
  have h3 : off < xs.length := by omega
  have h4 : (xs.drop off).take 1 = [xs[off]] := by
   rw [List.drop_eq_getElem_cons h3]; rfl
  simp [part, isAgg, run_underlying hu, valOf, hu, h2, h4, h3]
theorem eqL_len : ∀ {ks : List KTy} {cs ds : List Cel} {r : Bool}, eqL ks cs ds = some r → cs.length = ks.length ∧ ds.length = ks.length
 | [], [], [], _, _ => ⟨rfl, rfl⟩
 | [], c :: cs, ds, r, h => by simp [eqL] at h
 | [], [], d :: ds, r, h => by simp [eqL] at h
 | k :: ks, [], ds, r, h => by simp [eqL] at h
 | k :: ks, c :: cs, [], r, h => by simp [eqL] at h
 | k :: ks, c :: cs, d :: ds, r, h => by
  simp only [eqL] at h
  cases h1 : eqK k c d with
  | none => rw [h1] at h; cases h
  | some a =>
   rw [h1] at h
   cases h2 : eqL ks cs ds with
   | none => rw [h2] at h; cases h
   | some b => have := eqL_len h2; simp [this.1, this.2]
theorem run_eqSh : ∀ (m d : Nat) (t : TypeId) (ks : List KTy) (w : World) (xs ys : List Value) (r : Bool), eqSh P m t = some ks → eqL ks (xs.map .g) (ys.map .g) = some r → (Op.equalIn (d + m) t (valOf P t xs) (valOf P t ys)).run P w = .ok r w
 | 0, _, _, _, _, _, _, _, h, _ => by simp [eqSh] at h
 | m + 1, d, t, ks, w, xs, ys, r, h, he => by
  have fields : ∀ (fs : List Field) (off : Nat) (ls : List KTy) (r : Bool), eqShF P (eqSh P m) off fs = some ls → off + ls.length ≤ xs.length → off + ls.length ≤ ys.length → eqL ls (((xs.drop off).take ls.length).map .g) (((ys.drop off).take ls.length).map .g) = some r →
    (Op.eqFields (d + m) xs.toArray ys.toArray fs).run P w = .ok r w := by
   intro fs
   induction fs with
   | nil =>
    intro off ls r h1 _ _ h2
    simp only [eqShF, Option.some.injEq] at h1; subst h1
    simp [eqL] at h2; subst h2
    simp [Op.eqFields]
   | cons f fs ih =>
    intro off ls r h1 hx hy h2
    simp only [eqShF] at h1
    split at h1
    ·rename_i k1 i k2 hk1 hi hk2
     split at h1
     ·rename_i hcond
      obtain ⟨hn, hoff, hsz⟩ := hcond
      injection h1 with h1; subst h1
      obtain ⟨r1, r2, g1, g2, rfl⟩ := eqL_append h2
      have hcell : P.cellsOf f.type = k1.length := by
       simp [Program.cellsOf, hi, hsz]
      simp only [List.length_append] at hx hy g1 g2
      have p : ∀ zs : List Value, (((zs.drop off).take (k1.length + k2.length)).map Cel.g).take k1.length = ((zs.drop off).take k1.length).map .g := fun zs => by
       rw [← List.map_take, List.take_take, Nat.min_eq_left (by omega)]
      have q : ∀ zs : List Value, (((zs.drop off).take (k1.length + k2.length)).map Cel.g).drop k1.length = ((zs.drop (off + k1.length)).take k2.length).map .g := fun zs => by
       rw [← List.map_drop, List.drop_take, List.drop_drop, Nat.add_sub_cancel_left]
      rw [p, p] at g1
      rw [q, q] at g2
      have hu : ∃ dd, P.underlying f.type = some dd ∧ ((∃ fs, dd = .struct fs) ∨ dd = .bool ∨ (∃ k, dd = .int k) ∨ dd = .string) ∧ ((∃ fs, dd = .struct fs) ∨ k1.length = 1) := by
       cases m with
       | zero => simp [eqSh] at hk1
       | succ m =>
        simp only [eqSh] at hk1
        split at hk1
        ·rename_i e1; injection hk1 with hk1; subst hk1; exact ⟨_, e1, .inr (.inl rfl), .inr rfl⟩
        ·rename_i k e1; injection hk1 with hk1; subst hk1; exact ⟨_, e1, .inr (.inr (.inl ⟨k, rfl⟩)), .inr rfl⟩
        ·rename_i e1; injection hk1 with hk1; subst hk1; exact ⟨_, e1, .inr (.inr (.inr rfl)), .inr rfl⟩
        ·rename_i fs e1; exact ⟨_, e1, .inl ⟨fs, rfl⟩, .inl ⟨fs, rfl⟩⟩
        ·cases hk1
      obtain ⟨dd, hu, hkind, hone⟩ := hu
      have hone' : (∃ fs, dd = .struct fs) ∨ i.size = 1 := by rw [hsz]; exact hone
      have pa := run_part_of hu hi hkind (xs := xs) (off := off) (by omega) hone' w
      have pb := run_part_of hu hi hkind (xs := ys) (off := off) (by omega) hone' w
      have ih0 := run_eqSh m d f.type k1 w ((xs.drop off).take k1.length) ((ys.drop off).take k1.length) r1 hk1 g1
      have hn' : f.name ≠ "_" := by intro e; rw [e] at hn; simp at hn
      rw [hsz] at pa pb
      simp only [Op.eqFields, hoff, hn', ne_eq, not_false_eq_true, if_true, Sem.run_bind, pa, pb, ih0, Result.andThen_ok]
      cases r1 with
      | false => simp
      | true =>
       have := ih (off + k1.length) k2 r2 (by rw [← hcell]; exact hk2) (by omega) (by omega) g2
       simpa using this
     ·cases h1
    ·cases h1
  simp only [eqSh] at h
  have hlen := eqL_len he
  simp only [List.length_map] at hlen
  split at h
  ·rename_i hu
   injection h with h; subst h
   match xs, ys, hlen with
   | [x], [y], _ =>
    simp only [valOf, hu, List.headD]
    simp only [List.map_cons, List.map_nil, eqL] at he
    cases x <;> cases y <;> simp [eqK] at he
    subst he
    rw [← Nat.add_assoc, run_equalIn_bool w _ t _ _ hu]
    congr 1
  ·rename_i k hu
   injection h with h; subst h
   match xs, ys, hlen with
   | [x], [y], _ =>
    simp only [valOf, hu, List.headD]
    simp only [List.map_cons, List.map_nil, eqL] at he
    have he' : eqK (.i k) (.g x) (.g y) = some r := by
     generalize eqK (.i k) (.g x) (.g y) = q at he ⊢
     cases q <;> simp at he ⊢; exact he
    cases x <;> cases y <;> simp [eqK] at he'
    rename_i k1 a k2 b _
    obtain ⟨⟨rfl, rfl⟩, rfl⟩ := he'
    rw [← Nat.add_assoc, run_equalIn_int w _ t _ _ a b hu]
    congr 1
  ·rename_i hu
   injection h with h; subst h
   match xs, ys, hlen with
   | [x], [y], _ =>
    simp only [valOf, hu, List.headD]
    simp only [List.map_cons, List.map_nil, eqL] at he
    cases x <;> cases y <;> simp [eqK] at he
    subst he
    rw [← Nat.add_assoc, run_equalIn_string w _ t _ _ hu]
  ·rename_i fs hu
   split at h
   ·cases h
   ·rename_i hst
    have hf : P.fieldsOf t = fs := by simp [Program.fieldsOf, hu]
    simp only [valOf, hu]
    rw [← Nat.add_assoc, run_equalIn_struct w _ t _ _ (by rw [hf]; exact hu) (by simpa using hst), hf]
    refine fields fs.toList 0 ks r h (by omega) (by omega) ?_
    have e1 : (xs.drop 0).take ks.length = xs := by rw [List.drop_zero, List.take_of_length_le (by omega)]
    have e2 : (ys.drop 0).take ks.length = ys := by rw [List.drop_zero, List.take_of_length_le (by omega)]
    rw [e1, e2]; exact he
  ·cases h
variable {w0 w w' : World} {okA : Nat → Prop} {ext : Ext} {N : Nat} {s : AS} {a : Act} {E : Env} {o : Oper} {K : Act → World → Prop} {Q : Exit → Act → World → Prop}
/-- Cells that are compared as values are values. -/
theorem eqL_vals {ok : Nat → Prop} {base : Nat} : ∀ {ks : List KTy} {cs ds : List Cel} {us vs : List Value} {r : Bool}, eqL ks cs ds = some r → (∀ k ∈ ks, (match k with | .i _ | .b | .s => True | _ => False)) → CsRel w ok base E cs us → CsRel w ok base E ds vs → cs = us.map .g ∧ ds = vs.map .g
 | [], [], [], us, vs, r, _, _, h1, h2 => by
  have e1 : us = [] := by have := h1.1; cases us; rfl; simp at this
  have e2 : vs = [] := by have := h2.1; cases vs; rfl; simp at this
  subst e1; subst e2; simp
 | [], c :: cs, ds, _, _, r, h, _, _, _ => by simp [eqL] at h
 | [], [], d :: ds, _, _, r, h, _, _, _ => by simp [eqL] at h
 | k :: ks, [], ds, _, _, r, h, _, _, _ => by simp [eqL] at h
 | k :: ks, c :: cs, [], _, _, r, h, _, _, _ => by simp [eqL] at h
 | k :: ks, c :: cs, d :: ds, us, vs, r, h, hk, h1, h2 => by
  simp only [eqL] at h
  match us, vs, h1, h2 with
  | [], _, h1, _ => have := h1.1; simp at this
  | _ :: _, [], _, h2 => have := h2.1; simp at this
  | u :: us, v :: vs, h1, h2 =>
   cases g1 : eqK k c d with
   | none => rw [g1] at h; cases h
   | some a =>
    rw [g1] at h
    cases g2 : eqL ks cs ds with
    | none => rw [g2] at h; cases h
    | some b =>
     have t1 : CsRel w ok base E cs us := ⟨by simpa using h1.1, fun i c u hc hu => h1.2 (i + 1) c u (by simpa using hc) (by simpa using hu)⟩
     have t2 : CsRel w ok base E ds vs := ⟨by simpa using h2.1, fun i c u hc hu => h2.2 (i + 1) c u (by simpa using hc) (by simpa using hu)⟩
     obtain ⟨e1, e2⟩ := eqL_vals g2 (fun k hk' => hk k (by simp [hk'])) t1 t2
     have hc := h1.2 0 c u rfl rfl
     have hd := h2.2 0 d v rfl rfl
     have hk0 := hk k (by simp)
     subst e1; subst e2
     have key : (∃ x, c = .g x) ∧ (∃ y, d = .g y) := by
      cases k <;> simp at hk0 <;> (unfold eqK at g1; split at g1 <;> first | exact ⟨⟨_, rfl⟩, ⟨_, rfl⟩⟩ | (simp_all; done) | (rename_i h; cases h))
     obtain ⟨⟨x, rfl⟩, ⟨y, rfl⟩⟩ := key
     have ex : u = x := hc.1
     have ey : v = y := hd.1
     subst ex; subst ey
     simp
theorem eqL_one {k : KTy} {c e : Cel} {b : Bool} (h : eqL [k] [c] [e] = some b) : eqK k c e = some b := by
 simp only [eqL] at h
 generalize eqK k c e = q at h ⊢
 cases q <;> simp at h ⊢; exact h
theorem eqK_b_inv {c e : Cel} {r : Bool} (h : eqK .b c e = some r) : ∃ p q, c = .g (.bool p) ∧ e = .g (.bool q) ∧ r = decide (p = q) := by
 unfold eqK at h; split at h <;> simp_all
theorem eqK_ns_inv {c : Cel} {n m : Nat} {b : Bool} (h : eqK .ns c (.g (.slice none n m)) = some b) : (∃ fr z e es, c = .sl fr z (e :: es) ∧ b = false) ∨ (∃ n m, c = .g (.slice none n m) ∧ b = true) := by
 unfold eqK at h; split at h <;> simp_all
theorem eqK_np_inv {c : Cel} {b : Bool} (h : eqK .np c (.g (.pointer none)) = some b) : (∃ k off, c = .bx k off ∧ b = false) ∨ (∃ cs, c = .ep cs ∧ b = false) ∨ (c = .g (.pointer none) ∧ b = true) := by
 unfold eqK at h; split at h <;> simp_all
theorem eqK_ni_inv {c : Cel} {b : Bool} (h : eqK .ni c (.g .nilIface) = some b) : (c = .g .nilIface ∧ b = true) ∨ (∃ t v, c = .g (.iface t v) ∧ b = false) := by
 unfold eqK at h; split at h <;> simp_all
theorem eqSh_vals : ∀ {m : Nat} {t : TypeId} {ks : List KTy}, eqSh P m t = some ks → ∀ k ∈ ks, (match k with | .i _ | .b | .s => True | _ => False)
 | 0, _, _, h => by simp [eqSh] at h
 | m + 1, t, ks, h => by
  simp only [eqSh] at h
  split at h
  ·injection h with h; subst h; simp
  ·injection h with h; subst h; simp
  ·injection h with h; subst h; simp
  ·split at h
   ·cases h
   ·rename_i fs _ _
    have : ∀ (fs : List Field) (off : Nat) (ls : List KTy), eqShF P (eqSh P m) off fs = some ls → ∀ k ∈ ls, (match k with | .i _ | .b | .s => True | _ => False) := by
     intro fs
     induction fs with
     | nil => intro off ls h1; simp only [eqShF, Option.some.injEq] at h1; subst h1; simp
     | cons f fs ih =>
      intro off ls h1
      simp only [eqShF] at h1
      split at h1
      ·rename_i k1 i k2 hk1 hi hk2
       split at h1
       ·injection h1 with h1; subst h1
        intro k hk
        rcases List.mem_append.1 hk with hk | hk
        ·exact eqSh_vals hk1 k hk
        ·exact ih _ _ hk2 k hk
       ·cases h1
      ·cases h1
    exact this fs.toList 0 ks h
  ·cases h
theorem s_eqs (h : St w0 okA ext N s a w E) {op : BinOp} {t t' : TypeId} {x x' : Operand} {y y' : Opd} {neg agg : Bool} {ks : List KTy} (hx : opd x = some y) (hx' : opd x' = some y') (he : eqIns P op t y' = some (neg, agg, ks)) (ho : o.op = .binOp op t x x' t') (hd : ∀ k, o.dst = some k → k < N)
  (hK : SGood (estep o.dst (.eqs neg agg ks y y') s) (Serves w0 okA ext N K)) : o.wp P a w K Q := by
 simp only [estep] at hK
 have hr := ev_rel h hx
 have hr' := ev_rel h hx'
 split at hK
 ·rename_i b hb
  -- the comparison itself
  have key : eqIns.eqTy P t y' = some (agg, ks) → (eqGuard .eql t x x' (a.eval x) (a.eval x')).run P w = .ok () w ∧ (eqGuard .neq t x x' (a.eval x) (a.eval x')).run P w = .ok () w ∧
    (binOp .eql t (a.eval x) (a.eval x')).run P w = .ok (.bool b) w ∧ (binOp .neq t (a.eval x) (a.eval x')).run P w = .ok (.bool (!b)) w := by
   intro hty
   unfold eqIns.eqTy at hty
   generalize hz : y' = z at hty
   split at hty
   ·rename_i hu
    simp only [Option.some.injEq, Prod.mk.injEq] at hty
    obtain ⟨rfl, rfl⟩ := hty
    cases hv : s.ev y <;> cases hv' : s.ev y' <;> rw [hv, hv'] at hb <;> simp only [eqV, Bool.false_eq_true, if_false, reduceCtorEq] at hb
    rename_i c d
    obtain ⟨p, q, rfl, rfl, rfl⟩ := eqK_b_inv (eqL_one hb)
    have e1 := one_g hr hv
    have e2 := one_g hr' hv'
    have h3 := fun p q => run_equalIn_bool (P := P) w 9999 t p q hu
    refine ⟨by simp [e1, e2, eqGuard], by simp [e1, e2, eqGuard], ?_, ?_⟩ <;> (simp only [e1, e2, binOp, Op.equal, Op.maxDepth, Sem.run_bind, h3, Result.andThen_ok, Sem.run_pure]; congr 2)
   ·rename_i fs hu
    split at hty
    ·cases hty
    ·rename_i hg
     simp only [Option.map_eq_some_iff, Prod.mk.injEq] at hty
     obtain ⟨ks', hks, rfl, rfl⟩ := hty
     cases hv : s.ev y <;> cases hv' : s.ev y' <;> rw [hv, hv'] at hb <;> simp only [eqV, if_true, reduceCtorEq] at hb
     rename_i cs ds
     obtain ⟨us, e1, r1⟩ := ag_c hr hv
     obtain ⟨vs, e2, r2⟩ := ag_c hr' hv'
     obtain ⟨rfl, rfl⟩ := eqL_vals hb (eqSh_vals hks) r1 r2
     have h3 := run_eqSh 8 9992 t ks' w us vs b hks hb
     simp only [valOf, hu] at h3
     rw [e1, e2]
     refine ⟨run_eqGuard_agg w .eql t x x' _ _ (by simpa using hg), run_eqGuard_agg w .neq t x x' _ _ (by simpa using hg), ?_, ?_⟩
     ·rw [run_eql_struct, h3]; rfl
     ·rw [run_neq_struct, h3]; rfl
   ·rename_i e n' c' hu
    subst hz
    simp only [Option.some.injEq, Prod.mk.injEq] at hty
    obtain ⟨rfl, rfl⟩ := hty
    have hv' : s.ev (.v (.slice none n' c')) = .one (.g (.slice none n' c')) := rfl
    have e2 := one_g hr' hv'
    cases hv : s.ev y <;> rw [hv, hv'] at hb <;> simp only [eqV, Bool.false_eq_true, if_false, reduceCtorEq] at hb
    rename_i c
    rcases eqK_ns_inv (eqL_one hb) with ⟨fr, z, e, es, rfl, rfl⟩ | ⟨n, m, rfl, rfl⟩
    ·have h1 := one_c hr hv
     have h1' : ∃ ok, DRel w ok (.sl fr z (e :: es)) (a.eval x) := by
      cases fr <;> exact ⟨_, h1⟩
     obtain ⟨ok, h1'⟩ := h1'
     generalize a.eval x = vv at h1' ⊢
     rw [e2]
     cases h1' with
     | @sl _ _ _ bb off n c us _ _ _ _ _ _ _ =>
      have h3 : ∀ d : Nat, (Op.equalIn (d + 1) t (.slice (some ⟨bb, off, none⟩) n c) (.slice none n' c')).run P w = .ok false w := fun d => by simp [Op.equalIn, run_underlying hu]
      refine ⟨by simp [eqGuard], by simp [eqGuard], ?_, ?_⟩ <;> simp [binOp, Op.equal, Op.maxDepth, h3 9999]
    ·have e1 := one_g hr hv
     rw [e1, e2]
     have h3 : ∀ d : Nat, (Op.equalIn (d + 1) t (.slice none n m) (.slice none n' c')).run P w = .ok true w := fun d => by simp [Op.equalIn, run_underlying hu]
     refine ⟨by simp [eqGuard], by simp [eqGuard], ?_, ?_⟩ <;> simp [binOp, Op.equal, Op.maxDepth, h3 9999]
   ·rename_i e hu
    subst hz
    simp only [Option.some.injEq, Prod.mk.injEq] at hty
    obtain ⟨rfl, rfl⟩ := hty
    have hv' : s.ev (.v (.pointer none)) = .one (.g (.pointer none)) := rfl
    have e2 := one_g hr' hv'
    cases hv : s.ev y <;> rw [hv, hv'] at hb <;> simp only [eqV, Bool.false_eq_true, if_false, reduceCtorEq] at hb
    rename_i c
    have h1 := one_c hr hv
    rw [e2]
    have far : ∀ A : Addr, a.eval x = .pointer (some A) → b = false → (eqGuard .eql t x x' (a.eval x) (.pointer none)).run P w = .ok () w ∧ (eqGuard .neq t x x' (a.eval x) (.pointer none)).run P w = .ok () w ∧
      (binOp .eql t (a.eval x) (.pointer none)).run P w = .ok (.bool b) w ∧ (binOp .neq t (a.eval x) (.pointer none)).run P w = .ok (.bool (!b)) w := fun A e1 eb => by
     subst eb
     have h3 : ∀ d : Nat, (Op.equalIn (d + 1) t (.pointer (some A)) (.pointer none)).run P w = .ok false w := fun d => by simp [Op.equalIn, run_underlying hu]
     rw [e1]
     refine ⟨by simp [eqGuard], by simp [eqGuard], ?_, ?_⟩ <;> simp [binOp, Op.equal, Op.maxDepth, h3 9999]
    rcases eqK_np_inv (eqL_one hb) with ⟨k, off, rfl, hb'⟩ | ⟨cs, rfl, hb'⟩ | ⟨rfl, hb'⟩
    ·obtain ⟨g, _, e1⟩ := h1
     exact far _ e1 hb'
    ·obtain ⟨bb, off, us, e1, _⟩ := h1
     exact far _ e1 hb'
    ·have e1 := one_g hr hv
     subst hb'
     rw [e1]
     have h3 : ∀ d : Nat, (Op.equalIn (d + 1) t (.pointer none) (.pointer none)).run P w = .ok true w := fun d => by simp [Op.equalIn, run_underlying hu]
     refine ⟨by simp [eqGuard], by simp [eqGuard], ?_, ?_⟩ <;> simp [binOp, Op.equal, Op.maxDepth, h3 9999]
   ·rename_i ms hu
    subst hz
    simp only [Option.some.injEq, Prod.mk.injEq] at hty
    obtain ⟨rfl, rfl⟩ := hty
    have hv' : s.ev (.v .nilIface) = .one (.g .nilIface) := rfl
    have e2 := one_g hr' hv'
    cases hv : s.ev y <;> rw [hv, hv'] at hb <;> simp only [eqV, Bool.false_eq_true, if_false, reduceCtorEq] at hb
    rename_i c
    rw [e2]
    have hc' : ∃ v, x' = .const v := by
     cases x' <;> simp [opd] at hx'
     exact ⟨_, rfl⟩
    obtain ⟨cv, rfl⟩ := hc'
    rcases eqK_ni_inv (eqL_one hb) with ⟨rfl, rfl⟩ | ⟨ti, vi, rfl, rfl⟩
    ·have e1 := one_g hr hv
     rw [e1]
     have h3 : ∀ d : Nat, (Op.equalIn (d + 1) t .nilIface .nilIface).run P w = .ok true w := fun d => by simp [Op.equalIn, run_underlying hu]
     refine ⟨by simp [eqGuard], by simp [eqGuard], ?_, ?_⟩ <;> simp [binOp, Op.equal, Op.maxDepth, h3 9999]
    ·have e1 := one_g hr hv
     rw [e1]
     have h3 : ∀ d : Nat, (Op.equalIn (d + 1) t (.iface ti vi) .nilIface).run P w = .ok false w := fun d => by simp [Op.equalIn, run_underlying hu]
     refine ⟨by simp [eqGuard], by simp [eqGuard], ?_, ?_⟩ <;> simp [binOp, Op.equal, Op.maxDepth, h3 9999]
   ·cases hty
  have hput := h.put (d := o.dst) (v := .bool (if neg then !b else b)) (x := bv (if neg then !b else b)) (.one ⟨rfl, rfl⟩) hd
  unfold eqIns at he
  split at he
  ·simp only [Option.map_eq_some_iff, Prod.mk.injEq] at he
   obtain ⟨⟨g, l⟩, h1, rfl, h2⟩ := he
   simp only [Prod.mk.injEq] at h2
   obtain ⟨rfl, rfl⟩ := h2
   obtain ⟨k1, _, k3, _⟩ := key h1
   refine wp_value (v := .bool b) (w' := w) ?_ (hK _ _ E (by simpa using hput))
   simp [execOp, ho, k1, k3]
  ·simp only [Option.map_eq_some_iff, Prod.mk.injEq] at he
   obtain ⟨⟨g, l⟩, h1, rfl, h2⟩ := he
   simp only [Prod.mk.injEq] at h2
   obtain ⟨rfl, rfl⟩ := h2
   obtain ⟨_, k2, _, k4⟩ := key h1
   refine wp_value (v := .bool (!b)) (w' := w) ?_ (hK _ _ E (by simpa using hput))
   simp [execOp, ho, k2, k4]
  ·cases he
 ·exact hK.elim
end
end Go.Ai
namespace Go.Ai
open Go
set_option linter.unusedSimpArgs false
set_option linter.unusedVariables false
theorem made_flat (cells : Array Value) (n z : Nat) (hz : cells.size = z) (hz0 : 0 < z) : ((Array.range (n * z)).map fun i => cells[i % cells.size]!).toList = (List.replicate n cells.toList).flatten := by
 apply List.ext_getElem?
 intro j
 have hro : ∀ e ∈ List.replicate n cells.toList, e.length = z := fun e he => by rw [List.eq_of_mem_replicate he]; simpa using hz
 by_cases hj : j < n * z
 ·have hi : j / z < n := (Nat.div_lt_iff_lt_mul hz0).2 hj
  have hk : j % z < z := Nat.mod_lt _ hz0
  have h1 : (List.replicate n cells.toList)[j / z]? = some cells.toList := by simp [hi]
  have h2 : cells.toList[j % z]? = some (cells[j % z]'(by omega)) := by simp [show j % z < cells.size by omega]
  have h3 : j / z * z + j % z = j := by rw [Nat.mul_comm]; exact Nat.div_add_mod j z
  have h4 : (List.replicate n cells.toList).flatten[j / z * z + j % z]? = some (cells[j % z]'(by omega)) := flatten_at' hro h1 h2
  rw [h3] at h4
  rw [h4]
  have h5 : j % z < cells.size := by omega
  simp [hj, hz, getElem!_pos cells (j % z) h5]
 ·rw [List.getElem?_eq_none (by simpa using hj), List.getElem?_eq_none (by rw [flatten_len hro]; simpa using hj)]
where flatten_at' {α : Type} {z : Nat} : ∀ {es : List (List α)}, (∀ e ∈ es, e.length = z) → ∀ {i j : Nat} {e : List α} {x : α}, es[i]? = some e → e[j]? = some x → es.flatten[i * z + j]? = some x
 | [], _, i, j, e, x, he, _ => by simp at he
 | e0 :: es, hz, 0, j, e, x, he, hx => by
  simp at he; subst he
  have hlt : j < e0.length := (List.getElem?_eq_some_iff.1 hx).1
  rw [List.flatten_cons, Nat.zero_mul, Nat.zero_add, List.getElem?_append, if_pos hlt]; exact hx
 | e0 :: es, hz, i + 1, j, e, x, he, hx => by
  simp at he
  have h0 : e0.length = z := hz e0 (by simp)
  have ih := flatten_at' (es := es) (fun e h => hz e (by simp [h])) he hx
  have hge : ¬ (i + 1) * z + j < e0.length := by rw [h0, Nat.add_mul]; omega
  rw [List.flatten_cons, List.getElem?_append, if_neg hge, h0]
  rw [show (i + 1) * z + j - z = i * z + j by rw [Nat.add_mul]; omega]
  exact ih
section
variable {P : Program} {w0 w w' : World} {okA : Nat → Prop} {ext : Ext} {N : Nat} {s : AS} {a : Act} {E : Env} {o : Oper} {K : Act → World → Prop} {Q : Exit → Act → World → Prop}
theorem zero_rel {zero : List Value} (h : ∀ u ∈ zero, u.oneCell' = true) {ok : Nat → Prop} {base : Nat} : ∀ n : Nat, RRel w ok base (List.replicate n (zero.map Cel.g)).flatten (List.replicate n zero).flatten
 | 0 => .nil
 | n + 1 => by
  simp only [List.replicate_succ, List.flatten_cons]
  exact (RRel.of (CsRel.gs (E := Env.none) zero h) (fun c hc => by obtain ⟨v, _, rfl⟩ := List.mem_map.1 hc; rfl)).append (zero_rel h n)
theorem s_sfx (h : St w0 okA ext N s a w E) {t e : TypeId} {i : TypeInfo} {x l : Operand} {y m : Opd} (hx : opd x = some y) (hl : opd l = some m) (hu : P.underlying t = some (.slice e)) (hi : P.info? e = some i)
  (ho : o.op = .slice t x (some l) none none) (hd : ∀ k, o.dst = some k → k < N) (hK : SGood (estep o.dst (.sfx i.size y m) s) (Serves w0 okA ext N K)) : o.wp P a w K Q := by
 simp only [estep] at hK
 have hr := ev_rel h hx
 have hrl := ev_rel h hl
 split at hK
 ·rename_i k ver k' lo hv hvl
  split at hK
  ·rename_i r hs
   split at hK
   ·rename_i hcond
    obtain ⟨hver, hz⟩ := hcond
    obtain ⟨⟨h0, h1, h2⟩, hK⟩ := hK
    have el := one_g hrl hvl
    obtain ⟨_, ver', z, u, hm, hle, hu', hzp⟩ := one_c hr hv
    obtain ⟨_, _, u', vs, hm', hown, _⟩ := h.rwS hs (h.zpos hs hm hzp)
    have hm2 := hm
    rw [hm] at hm'
    simp only [Option.some.injEq, Prod.mk.injEq] at hm'
    obtain ⟨rfl, rfl, rfl⟩ := hm'
    have hx1 := hu' hver
    rcases hown.2 with ⟨_, h3⟩ | ⟨g, cap, cur, rfl, _, _, hnc, _⟩
    ·omega
    ·have e1 : lo.toNat ≤ r.es.length := by omega
     have hrun := run_slice_own (P := P) hu hi (a.eval x) (some (a.eval l)) none hx1 hnc (l := lo.toNat) (h := r.es.length) (.inr ⟨k', lo, by rw [el], h0, rfl⟩) (.inl ⟨rfl, rfl⟩) e1 (Nat.le_refl _) w
     refine wp_value (v := .slice (if cap = lo.toNat then some ⟨g, 0, none⟩ else (some (⟨g, 0, none⟩ : Addr)).map (·.add (lo.toNat * i.size))) (r.es.length - lo.toNat) (cap - lo.toNat)) (w' := w) ?_ (hK _ _ E (h.put (.one ?_) hd))
     ·simp only [execOp, ho, Option.map_none, Option.map_some, Sem.run_bind, hrun]
      rfl
     ·split
      ·rename_i hcap
       exact ⟨rfl, r.ver, r.z, _, hm2, hle, fun _ => ⟨g, _, cap, _, rfl, e1, rfl, fun hlt => by omega⟩, hzp⟩
      ·refine ⟨rfl, r.ver, r.z, _, hm2, hle, fun _ => ⟨g, _, cap, _, rfl, e1, rfl, fun _ => ?_⟩, hzp⟩
       show (Addr.mk g 0 none).add (lo.toNat * i.size) = _
       rw [add_none, Nat.zero_add, hz]
   ·exact hK.elim
  ·exact hK.elim
 ·exact hK.elim
theorem s_trn (h : St w0 okA ext N s a w E) {t e : TypeId} {i : TypeInfo} {x l : Operand} {y m : Opd} (hx : opd x = some y) (hl : opd l = some m) (hu : P.underlying t = some (.slice e)) (hi : P.info? e = some i)
  (ho : o.op = .slice t x none (some l) none) (hd : ∀ k, o.dst = some k → k < N) (hK : SGood (estep o.dst (.trn i.size y m) s) (Serves w0 okA ext N K)) : o.wp P a w K Q := by
 simp only [estep] at hK
 have hr := ev_rel h hx
 have hrl := ev_rel h hl
 split at hK
 ·rename_i k ver k' hh hv hvl
  split at hK
  ·rename_i r hs
   split at hK
   ·rename_i hcond
    obtain ⟨hver, hz⟩ := hcond
    obtain ⟨⟨h0, h1, h2⟩, hK⟩ := hK
    have el := one_g hrl hvl
    obtain ⟨_, ver', z, u, hm, hle, hu', hzp⟩ := one_c hr hv
    obtain ⟨hz0, hrow, u', vs, hm', hown, hrel⟩ := h.rwS hs (h.zpos hs hm hzp)
    have hm2 := hm
    rw [hm] at hm'
    simp only [Option.some.injEq, Prod.mk.injEq] at hm'
    obtain ⟨rfl, rfl, rfl⟩ := hm'
    have hx1 := hu' hver
    have hown' := hown
    rcases hown.2 with ⟨_, h3⟩ | ⟨g, cap, cur, rfl, hb, hcell, hnc, hcm, hcs, htake⟩
    ·omega
    ·have e1 : hh.toNat ≤ r.es.length := by omega
     have hrun := run_slice_own (P := P) hu hi (a.eval x) none (some (a.eval l)) hx1 hnc (l := 0) (h := hh.toNat) (.inl ⟨rfl, rfl⟩) (.inr ⟨k', hh, by rw [el], h0, rfl⟩) (Nat.zero_le _) e1 w
     have hval : (if cap = 0 then some (⟨g, 0, none⟩ : Addr) else (some (⟨g, 0, none⟩ : Addr)).map (·.add (0 * i.size))) = some ⟨g, 0, none⟩ := by
      split <;> simp [Addr.add]
     have hfl : (r.es.take hh.toNat).flatten = r.es.flatten.take (hh.toNat * r.z) := by
      have h5 : r.es.flatten = (r.es.take hh.toNat).flatten ++ (r.es.drop hh.toNat).flatten := by rw [← List.flatten_append, List.take_append_drop]
      have h6 : (r.es.take hh.toNat).flatten.length = hh.toNat * r.z := by rw [flatten_len (fun e he => hrow e (List.mem_of_mem_take he)), List.length_take, Nat.min_eq_left (by omega)]
      rw [h5, ← h6, List.take_left']; rfl
     have hle2 : hh.toNat * r.z ≤ r.es.length * r.z := Nat.mul_le_mul_right _ e1
     have hcz : r.es.length * r.z ≤ cap * r.z := Nat.mul_le_mul_right _ hnc
     have hvl : vs.length = r.es.length * r.z := hown.1
     have hst := h.rowTurn (r' := { r with ver := r.ver + 1, es := r.es.take hh.toNat }) (u' := .slice (some ⟨g, 0, none⟩) hh.toNat cap) (vs' := vs.take (hh.toNat * r.z)) hz0 hs hm2 rfl (Nat.le_succ _) (fun h => by simp at h) (fun e he => hrow e (List.mem_of_mem_take he)) (World.grownBy.refl _ _)
      ⟨by simp only [List.length_take]; rw [Nat.min_eq_left (by omega), Nat.min_eq_left e1], .inr ⟨g, cap, cur, by simp only [List.length_take, Nat.min_eq_left e1], hb, hcell, by simp only [List.length_take]; omega, hcm, hcs, by simp only [List.length_take, Nat.min_eq_left e1]; rw [← htake, List.take_take, Nat.min_eq_left hle2]⟩⟩
      (by simp only [hfl]; exact hrel.take _) (.inl rfl)
     refine wp_value (v := .slice (some ⟨g, 0, none⟩) hh.toNat cap) (w' := w) ?_ (hK _ _ _ (hst.put (.one ⟨rfl, r.ver + 1, r.z, _, by simp [upd_same], Nat.le_refl _, fun _ => rfl, hzp⟩) hd))
     rw [hval, Nat.sub_zero, Nat.sub_zero] at hrun
     simp only [execOp, ho, Option.map_none, Option.map_some, Sem.run_bind, hrun]
     rfl
   ·exact hK.elim
  ·exact hK.elim
 ·exact hK.elim
theorem s_clr (h : St w0 okA ext N s a w E) {t e : TypeId} {i : TypeInfo} {x : Operand} {y : Opd} {z : List Value} (hx : opd x = some y) (hu : P.underlying t = some (.slice e)) (hi : P.info? e = some i) (hz : zeroOf P e = some z) (hzl : z.length = i.size)
  (ho : o.op = .call { callee := .builtin .clear, args := #[x], argTypes := #[t] }) (hd : ∀ k, o.dst = some k → k < N) (hK : SGood (estep o.dst (.clr e i.size z y) s) (Serves w0 okA ext N K)) : o.wp P a w K Q := by
 simp only [estep] at hK
 have hr := ev_rel h hx
 obtain ⟨i', zv, hi', hzv, hzc, hone⟩ := zero_of hz
 rw [hi] at hi'; injection hi' with hi'; subst hi'
 split at hK
 ·rename_i k ver lo hv
  split at hK
  ·rename_i r hs
   split at hK
   ·rename_i hcond
    obtain ⟨hver, hE, hzz, _⟩ := hcond
    obtain ⟨_, ver', z', u, hm, hle, hu', hzp⟩ := one_c hr hv
    obtain ⟨hz0, hrow, u', vs, hm', hown, hrel⟩ := h.rwS hs (h.zpos hs hm hzp)
    have hm2 := hm
    rw [hm] at hm'
    simp only [Option.some.injEq, Prod.mk.injEq] at hm'
    obtain ⟨rfl, rfl, rfl⟩ := hm'
    obtain ⟨g, n, c, A, hu1, hlo, hx1, hA⟩ := hu' hver
    subst hu1
    rcases hown.2 with ⟨h3, _⟩ | ⟨g', cap, cur, h3, hb, hcell, hnc, hcm, hcs, htake⟩
    ·cases h3
    ·simp only [Value.slice.injEq, Option.some.injEq, Addr.mk.injEq, and_true] at h3
     obtain ⟨rfl, rfl, rfl⟩ := h3
     have hvl : vs.length = r.es.length * r.z := hown.1
     have hlo' : lo ≤ r.es.length := hlo
     have hcsz : zv.cells.size = r.z := by have := congrArg List.length hzc; simp at this; omega
     by_cases hfull : r.es.length - lo = 0
     ·have hes : { r with es := r.es.take lo ++ List.replicate (r.es.length - lo) (z.map Cel.g) } = r := by
       rw [hfull]; simp [List.take_of_length_le (show r.es.length ≤ lo by omega)]
      rw [hes] at hK
      have hup : upd s.rw k (some r) = s.rw := by
       funext j
       by_cases hj : j = k
       ·subst hj; rw [upd_same, hs]
       ·rw [upd_ne _ _ hj]
      rw [hup] at hK
      refine wp_value (v := .tuple #[]) (w' := w) ?_ (hK _ _ E (h.put .any hd))
      rw [hfull] at hx1
      simp [execOp, ho, resolve, invoke, builtin, Builtin.clear_, hx1, run_underlying hu]
     ·have hlt : lo < r.es.length := by omega
      have hA' := hA hlt
      subst hA'
      have hflz : ((Array.range ((r.es.length - lo) * zv.cells.size)).map fun i => zv.cells[i % zv.cells.size]!).toList = (List.replicate (r.es.length - lo) z).flatten := by
       rw [hcsz]
       have := made_flat zv.cells (r.es.length - lo) r.z hcsz hz0
       rw [hcsz] at this; rw [this, hzc]
      have hlen : (List.replicate (r.es.length - lo) z).flatten.length = (r.es.length - lo) * r.z := by
       rw [flatten_len (z := r.z) (fun e he => by rw [List.eq_of_mem_replicate he]; omega)]; simp
      have hcz : r.es.length * r.z ≤ c * r.z := Nat.mul_le_mul_right _ hnc
      have hsum : lo * r.z + (r.es.length - lo) * r.z = r.es.length * r.z := by rw [← Nat.add_mul]; congr 1; omega
      have hst0 := run_storeCells_at (P := P) g (lo * r.z) r.E (List.replicate (r.es.length - lo) z).flatten 0 cur w hcell (by rw [hlen]; omega) (fun v hv => by
       obtain ⟨l, hl, hv'⟩ := List.mem_flatten.1 hv
       rw [List.eq_of_mem_replicate hl] at hv'; exact hone v hv')
      simp only [Nat.add_zero] at hst0
      have hgr := setRow_grown w g (cur.toList.take (lo * r.z) ++ (List.replicate (r.es.length - lo) z).flatten ++ cur.toList.drop (lo * r.z + (List.replicate (r.es.length - lo) z).flatten.length)).toArray
      have hfl : (r.es.take lo ++ List.replicate (r.es.length - lo) (z.map Cel.g)).flatten = r.es.flatten.take (lo * r.z) ++ (List.replicate (r.es.length - lo) (z.map Cel.g)).flatten := by
       rw [List.flatten_append]
       congr 1
       have h5 : r.es.flatten = (r.es.take lo).flatten ++ (r.es.drop lo).flatten := by rw [← List.flatten_append, List.take_append_drop]
       have h6 : (r.es.take lo).flatten.length = lo * r.z := by rw [flatten_len (fun e he => hrow e (List.mem_of_mem_take he)), List.length_take, Nat.min_eq_left (by omega)]
       rw [h5, ← h6, List.take_left']; rfl
      have hclen : (r.es.take lo ++ List.replicate (r.es.length - lo) (z.map Cel.g)).length = r.es.length := by simp; omega
      have hst := h.rowTurn (r' := { r with es := r.es.take lo ++ List.replicate (r.es.length - lo) (z.map Cel.g) }) (u' := .slice (some ⟨g, 0, none⟩) r.es.length c) (vs' := vs.take (lo * r.z) ++ (List.replicate (r.es.length - lo) z).flatten) hz0 hs hm2 rfl (Nat.le_refl _) (fun _ => rfl)
       (fun e he => by
        rcases List.mem_append.1 he with h6 | h6
        ·exact hrow e (List.mem_of_mem_take h6)
        ·rw [List.eq_of_mem_replicate h6]; simp; omega) hgr
       ⟨by simp only [hclen, List.length_append, List.length_take, hlen]; rw [Nat.min_eq_left (by omega)]; exact hsum, .inr ⟨g, c, _, by simp only [hclen], hb, setRow_heap w g cur _ _ (0, 0) hcell, by simp only [hclen]; exact hnc, hcm, by
        simp only [List.size_toArray, List.length_append, List.length_take, List.length_drop, hlen, Array.length_toList]; omega, by
        simp only [hclen]
        rw [List.append_assoc, List.take_append]
        have h7 : (cur.toList.take (lo * r.z)).length = lo * r.z := by simp; omega
        rw [List.take_of_length_le (by omega), h7]
        have h8 : r.es.length * r.z - lo * r.z = (r.es.length - lo) * r.z := by omega
        rw [h8, ← hlen, List.take_left']
        ·congr 1
         rw [← htake, List.take_take, Nat.min_eq_left (by omega)]
        ·rfl⟩⟩
       (by simp only [hfl]; exact (hrel.take _).append (zero_rel hone _)) (.inl rfl)
      refine wp_value (v := .tuple #[]) (w' := _) ?_ (hK _ _ _ (hst.put .any hd))
      obtain ⟨mm, hmm⟩ : ∃ mm, r.es.length - lo = mm + 1 := ⟨r.es.length - lo - 1, by omega⟩
      have hrunc : (Builtin.clear_ #[t] o.type #[.slice (some ⟨g, lo * r.z, none⟩) (r.es.length - lo) (c - lo)]).run P w = .ok (.tuple #[]) (w.setRow g (cur.toList.take (lo * r.z) ++ (List.replicate (r.es.length - lo) z).flatten ++ cur.toList.drop (lo * r.z + (List.replicate (r.es.length - lo) z).flatten.length)).toArray) := by
       rw [hmm] at hflz hst0 ⊢
       simp only [Builtin.clear_]
       simp [run_underlying hu, zeroValue, typeInfo, hi, hzv, Builtin.zeroCells]
       have hflz' : List.map (fun i => zv.cells[i % zv.cells.size]!) (List.range ((mm + 1) * zv.cells.size)) = (List.replicate (mm + 1) z).flatten := by rw [← hflz]; simp
       rw [hflz', hst0]
       simp
      simp [execOp, ho, resolve, invoke, builtin, hx1, hrunc]
   ·exact hK.elim
  ·exact hK.elim
 ·exact hK.elim
theorem St.newG (h : St w0 okA ext N s a w E) {w1 : World} (hgr : w.grownBy w1 none) {k : Nat} {r : Row} {u : Value} {c : Cel} {vs : List Value} (hs : s.rw k = none) (hkN : k < N) (hu : blkV u = some w.heap.size) (hro : rowOkZ r.z r.es) (hver : r.ver = 0)
  (hcell : ∀ (E' : Env) (ok : Nat → Prop) (base : Nat), E'.rm k = some (0, r.z, u) → CRel w1 ok base E' c u) (hown : owns w1 0 r.E r.z u r.es.length vs) (hrel : RRel w (okE w0 okA E) w0.heap.size r.es.flatten vs) :
  St w0 okA ext N { s with tm := upd s.tm k (.one c), rw := upd s.rw k (some r) } (a.put (some k) u) w1 ⟨E.gm, upd E.rm k (some (0, r.z, u))⟩ := by
 have hEk : E.rm k = none := h.rwn k hs
 have hkeep : Keeps (okE w0 okA E) w w1 := .of_grown hgr
 have hle : EnvLe E ⟨E.gm, upd E.rm k (some (0, r.z, u))⟩ := ⟨fun _ _ h => h, fun j ver z v hj => by
  have e : j ≠ k := by rintro rfl; rw [hEk] at hj; cases hj
  exact ⟨ver, v, by simp only [upd_ne _ _ e]; exact hj, Nat.le_refl _, fun _ => rfl⟩⟩
 have hrow : ∀ {j ver z' v}, (upd E.rm k (some (0, r.z, u))) j = some (ver, z', v) → (j = k ∧ (blkV v) = some w.heap.size) ∨ (j ≠ k ∧ E.rm j = some (ver, z', v)) := fun {j ver z' v} hj => by
  by_cases e : j = k
  ·subst e; simp only [upd_same, Option.some.injEq, Prod.mk.injEq] at hj; exact .inl ⟨rfl, by rw [← hj.2.2]; exact hu⟩
  ·simp only [upd_ne _ _ e] at hj; exact .inr ⟨e, hj⟩
 have hokb : ∀ b, b < w.heap.size → okE w0 okA E b → okE w0 okA ⟨E.gm, upd E.rm k (some (0, r.z, u))⟩ b := fun b hb ho =>
  ⟨ho.1, fun j ver z' v hj => by
   rcases hrow hj with ⟨_, h1⟩ | ⟨_, h1⟩
   ·rw [h1]; intro h2; injection h2 with h2; omega
   ·exact ho.2.1 j ver z' v h1, ho.2.2⟩
 refine ⟨by simp [Act.put, h.size], h.defers, fun t => ?_, fun j cs hj => ?_, h.bxn, fun j q hq => ?_, fun j hj => ?_, h.ginj, fun j g j' ver z v hj hv' => ?_, fun j ver z v j' ver' z' v' b hj hj' hb hb' => ?_, h.gfr, h.gx, h.nx, fun j ver z' v b hj hb => ?_, fun j z' v hjk hj => ?_, ?_, fun k g hk hg => (h.bt k g hk hg).imp fun cur h1 => h1.imp fun T h1 => ⟨(hgr.block g (Array.getElem?_eq_some_iff.1 h1.1).1 (by simp)).trans h1.1, h1.2⟩⟩
 ·by_cases e : t = k
  ·subst e
   have : (a.put (some t) u).tmps.getD t undef = u := by simp [Act.put, Array.getD, h.size, hkN]
   rw [this]; simp only [upd_same]
   exact .one (hcell _ _ _ (by simp [upd_same]))
  ·have : (a.put (some k) u).tmps.getD t undef = a.tmps.getD t undef := by simp [Act.put, Array.getD_eq_getD_getElem?, Ne.symm e]
   rw [this]; simp only [upd_ne _ _ e]
   exact (h.tm t).move hkeep hokb (Nat.le_refl _) hle
 ·obtain ⟨g, c0, ty', h1, h2, h3⟩ := h.bx j cs hj
  exact ⟨g, c0, ty', h1, (hgr.block g (h.glt h1) (by simp)).trans h2, h3.move hkeep hokb (Nat.le_refl _) hle⟩
 ·by_cases e : j = k
  ·subst e; simp only [upd_same, Option.some.injEq] at hq; subst hq
   exact ⟨fun _ => hver, hro, _, vs, by simp [upd_same, hver], hown, hrel.move hkeep hokb (Nat.le_refl _)⟩
  ·simp only [upd_ne _ _ e] at hq
   obtain ⟨h1, h2, v, vs', h3, h4, h5⟩ := h.rw j q hq
   refine ⟨h1, h2, v, vs', by simp only [upd_ne _ _ e]; exact h3, ?_, h5.move hkeep hokb (Nat.le_refl _)⟩
   rcases hu : (blkV v) with _ | b
   ·exact h4.kept hgr (.inl hu)
   ·exact h4.kept hgr (.inr (by rw [hu]; simp))
 ·by_cases e : j = k
  ·subst e; simp [upd_same] at hj
  ·simp only [upd_ne _ _ e] at hj ⊢; exact h.rwn j hj
 ·rcases hrow hv' with ⟨_, h1⟩ | ⟨_, h1⟩
  ·rw [h1]; intro h2; injection h2 with h2; have := h.glt hj; omega
  ·exact h.gr j g j' ver z v hj h1
 ·rcases hrow hj with ⟨e1, h1⟩ | ⟨_, h1⟩ <;> rcases hrow hj' with ⟨e2, h2⟩ | ⟨_, h2⟩
  ·rw [e1, e2]
  ·rw [h1] at hb; injection hb with hb; have := h.rlt h2 hb'; omega
  ·rw [h2] at hb'; injection hb' with hb'; have := h.rlt h1 hb; omega
  ·exact h.rr j _ _ v j' _ _ v' b h1 h2 hb hb'
 ·rcases hrow hj with ⟨_, h1⟩ | ⟨_, h1⟩
  ·rw [h1] at hb; injection hb with hb; subst hb; exact .inl h.frame.size
  ·exact h.rfr j ver z' v b h1 hb
 ·by_cases e : j = k
  ·have := h.nx; simp only [XK] at hjk; omega
  ·simp only [upd_ne _ _ e] at hj; exact h.rst j z' v hjk hj
 ·exact ⟨hgr.os.trans h.frame.os, hgr.tape.trans h.frame.tape, hgr.output.trans h.frame.output, Nat.le_trans h.frame.size hgr.size, fun b hb hne => (hgr.block b (Nat.lt_of_lt_of_le hb h.frame.size) (by simp)).trans (h.frame.block b hb hne)⟩
theorem St.newRow (h : St w0 okA ext N s a w E) {w1 : World} (hgr : w.grownBy w1 none) {k c : Nat} {r : Row} {vs : List Value} (hs : s.rw k = none) (hkN : k < N) (hz : 0 < r.z) (hro : rowOk r.z r.es) (hver : r.ver = 0)
  (hown : w1.ownsRow 0 r.E r.z (.slice (some ⟨w.heap.size, 0, none⟩) r.es.length c) r.es.length vs) (hrel : RRel w (okE w0 okA E) w0.heap.size r.es.flatten vs) :
  St w0 okA ext N { s with tm := upd s.tm k (.one (.ow k 0)), rw := upd s.rw k (some r) } (a.put (some k) (.slice (some ⟨w.heap.size, 0, none⟩) r.es.length c)) w1 ⟨E.gm, upd E.rm k (some (0, r.z, .slice (some ⟨w.heap.size, 0, none⟩) r.es.length c))⟩ :=
 h.newG hgr hs hkN rfl (.of hz hro) hver (fun E' ok base he => ⟨rfl, 0, r.z, _, he, Nat.le_refl _, fun _ => rfl, hz⟩) (.inl ⟨hz, hown⟩) hrel
theorem s_mkr (h : St w0 okA ext N s a w E) {t e : TypeId} {i : TypeInfo} {l lc : Operand} {m mc : Opd} {z : List Value} (hl : opd l = some m) (hlc : opd lc = some mc) (hu : P.underlying t = some (.slice e)) (hi : P.info? e = some i) (hz : zeroOf P e = some z) (hzl : z.length = i.size)
  (ho : o.op = .makeSlice t l lc) (hd : ∀ k, o.dst = some k → k < N) (hK : SGood (estep o.dst (.mkr e i.size i.bytes z m mc) s) (Serves w0 okA ext N K)) : o.wp P a w K Q := by
 have hrl := ev_rel h hl
 have hrc := ev_rel h hlc
 obtain ⟨i', zv, hi', hzv, hzc, hone⟩ := zero_of hz
 rw [hi] at hi'; injection hi' with hi'; subst hi'
 cases hdst : o.dst with
 | none => rw [hdst] at hK; simp only [estep] at hK; exact hK.elim
 | some k =>
  rw [hdst] at hK
  simp only [estep] at hK
  split at hK
  ·rename_i k' kk mm kk' mm' hk' hv hvc
   injection hk' with hk'; subst hk'
   have el := one_g hrl hv
   have ec := one_g hrc hvc
   split at hK
   ·rename_i hs
    split at hK
    ·rename_i hcond
     obtain ⟨hkx, hz0, _⟩ := hcond
     obtain ⟨⟨h0, hmm, hby, h63⟩, hK⟩ := hK
     subst hmm
     obtain ⟨n, rfl⟩ : ∃ n : Nat, mm' = n := ⟨mm'.toNat, by omega⟩
     obtain ⟨w1, hrun, hown, hgr⟩ := run_make_full (P := P) w 0 t e i zv i.size hu hi hzv rfl kk kk' n (by
      have : ((n * i.bytes : Nat) : Int) ≤ 281474976710656 := by rw [Int.natCast_mul]; exact hby
      rw [Nat.mul_comm]; omega) (by simp only [maxLen]; omega) (Nat.zero_le _)
     have hcsz : zv.cells.size = i.size := by have := congrArg List.length hzc; simp at this; omega
     have hfl : (madeCells zv.cells (n * i.size)).toList = (List.replicate n z).flatten := by
      have := made_flat zv.cells n i.size hcsz hz0
      rw [hzc] at this; exact this
     rw [hfl] at hown
     have hst := h.newRow hgr (k := k) (c := n) (r := ⟨0, e, i.size, List.replicate n (z.map Cel.g)⟩) (vs := (List.replicate n z).flatten) hs (hd k hdst) hz0
      (fun x hx => by rw [List.eq_of_mem_replicate hx]; simp; omega) rfl (by simpa using hown) (zero_rel hone n)
     refine wp_value (v := .slice (some ⟨w.heap.size, 0, none⟩) n n) (w' := w1) ?_ (by rw [hdst]; simpa using hK _ _ _ hst)
     simp [execOp, ho, el, ec, hrun]
    ·exact hK.elim
   ·exact hK.elim
  ·exact hK.elim
theorem s_bslRow (h : St w0 okA ext N s a w E) {t e : TypeId} {i : TypeInfo} {len k : Nat} {parts : Array (Nat × Operand)} {es : List (List Cel)} (hu : P.underlying t = some (.slice e)) (hi : P.info? e = some i)
  (hidx : parts.toList.map (·.1) = List.range len) (hz0 : 0 < i.size) (hsm : len * i.size ≤ 16777216) (hl0 : 0 < len) (hzero : (i.zero.map (·.cells.size)) = some i.size)
  (hs : s.rw k = none) (hdst : o.dst = some k) (hel : es.length = parts.toList.length) (hplen : parts.toList.length = len)
  (hcs : ∀ (k : Nat) (p : Nat × Operand), parts.toList[k]? = some p → ∃ x : List Cel, es[k]? = some x ∧ CsRel w (okE w0 okA E) w0.heap.size E x (a.eval p.2).cells.toList)
  (ho : o.op = .buildSlice t len parts) (hd : ∀ k, o.dst = some k → k < N) (hK : SGood (bslRow s k e i.size len len es) (Serves w0 okA ext N K)) : o.wp P a w K Q := by
 unfold bslRow at hK
 split at hK
 rotate_left
 ·exact hK.elim
 rename_i hcond
 simp only [Bool.and_eq_true, List.all_eq_true, decide_eq_true_eq] at hcond
 obtain ⟨⟨⟨hall, hlen⟩, hkx⟩, _⟩ := hcond
 have heslen : es.length = len := by omega
 have hpart : ∀ (k : Nat) (p : Nat × Operand), parts.toList[k]? = some p → ∃ x : List Cel, es[k]? = some x ∧ RRel w (okE w0 okA E) w0.heap.size x (a.eval p.2).cells.toList ∧ x.length = i.size := fun k p hp => by
  obtain ⟨x, h4, h5⟩ := hcs k p hp
  have h6 := hall x (List.mem_of_getElem? h4)
  exact ⟨x, h4, RRel.of h5 h6.2, h6.1⟩
 have hrow : rowOk i.size es := fun x hx => by
  obtain ⟨k, hk⟩ := List.getElem?_of_mem hx
  have hlt : k < parts.toList.length := by have := (List.getElem?_eq_some_iff.1 hk).1; omega
  obtain ⟨x', h1, _, h2⟩ := hpart k _ (List.getElem?_eq_getElem hlt)
  rw [hk] at h1; injection h1 with h1; subst h1
  exact h2
 generalize hvs : (parts.toList.map fun p => (a.eval p.2).cells.toList).flatten = vs
 have hrel0 : RRel w (okE w0 okA E) w0.heap.size es.flatten vs := by
  subst hvs
  exact rrel_flatten parts.toList es (fun p => (a.eval p.2).cells.toList) (by omega) (fun k p hp => by obtain ⟨x, h1, h2, _⟩ := hpart k p hp; exact ⟨x, h1, h2⟩)
 obtain ⟨zv, hzv, hzs⟩ : ∃ zv, i.zero = some zv ∧ zv.cells.size = i.size := by
  cases hzz : i.zero with
  | none => rw [hzz] at hzero; cases hzero
  | some zv => rw [hzz] at hzero; exact ⟨zv, rfl, by simpa using hzero⟩
 have hzip : (parts.map fun (p : Nat × Operand) => (p.1, a.eval p.2)).toList = (List.range' 0 (parts.toList.map fun p => a.eval p.2).length).zip (parts.toList.map fun p => a.eval p.2) := by
  rw [Array.toList_map]
  exact zip_of_idx a.eval parts.toList 0 (by rw [hidx, hplen, List.range_eq_range'])
 have hfill := fill_row i.size (parts.toList.map fun p => a.eval p.2) 0 ((Array.range (len * i.size)).map (zv.cells[· % zv.cells.size]!)) (fun v hv => by
  simp only [List.mem_map] at hv
  obtain ⟨p, hp, rfl⟩ := hv
  obtain ⟨k, hk⟩ := List.getElem?_of_mem hp
  obtain ⟨x, _, h2, h3⟩ := hpart k p hk
  have := h2.1; simp at this; omega) (by simp [hplen])
 rw [← hzip] at hfill
 simp only [Nat.zero_mul, List.take_zero, List.nil_append, List.map_map] at hfill
 have hrun : (execOp a.eval o).run P w = .ok (.value (.slice (some ⟨w.heap.size, 0, none⟩) len len)) (w.alloc (.cells vs.toArray e)) := by
  have h3 : ((fun v : Value => v.cells.toList) ∘ fun p : Nat × Operand => a.eval p.2) = fun p => (a.eval p.2).cells.toList := rfl
  rw [h3, hvs] at hfill
  have h4 : ¬ (len * i.size > 2 ^ 24) := by simp; omega
  have h5 : ¬ (len * i.size = 0) := by
   intro h0; rcases Nat.mul_eq_zero.1 h0 with h | h <;> omega
  simp only [execOp, ho]
  rw [Array.toList_map] at hfill
  have h6 : ¬ (2 ^ 24 < len * i.size) := h4
  simp [Instr.buildSlice, run_underlying hu, sizeOf, typeInfo, hi, zeroValue, hzv, newRow, newObj]
  rw [if_neg (by simpa using h6), if_neg h5, hfill]
  simp [Sem.run]
 have hgr : w.grownBy (w.alloc (.cells vs.toArray e)) none := World.grownBy_alloc w _ _
 have hvl : vs.length = len * i.size := by rw [← hrel0.1, flatten_len hrow, heslen]
 have hown : (w.alloc (.cells vs.toArray e)).ownsRow 0 e i.size (.slice (some ⟨w.heap.size, 0, none⟩) len len) len vs :=
  ⟨hvl, .inr ⟨w.heap.size, len, vs.toArray, rfl, Nat.zero_le _, heap_alloc_new w _, Nat.le_refl _, by simp only [maxLen]; have : len ≤ len * i.size := Nat.le_mul_of_pos_right _ hz0; omega, by simpa using hvl, by rw [← hvl]; simp⟩⟩
 have hst := h.newRow hgr (k := k) (c := len) (r := ⟨0, e, i.size, es⟩) (vs := vs) hs (hd k hdst) hz0 hrow rfl (by simpa [heslen] using hown) hrel0
 refine wp_value (w' := w.alloc (.cells vs.toArray e)) hrun (by rw [hdst]; simpa [heslen] using hK _ _ _ hst)
theorem s_bslr (h : St w0 okA ext N s a w E) {t e : TypeId} {i : TypeInfo} {len : Nat} {parts : Array (Nat × Operand)} {ps : List Opd} (hu : P.underlying t = some (.slice e)) (hi : P.info? e = some i) (hps : parts.toList.mapM (fun p => opd p.2) = some ps)
  (hidx : parts.toList.map (·.1) = List.range len) (hz0 : 0 < i.size) (hsm : len * i.size ≤ 16777216) (hl0 : 0 < len) (hzero : (i.zero.map (·.cells.size)) = some i.size)
  (ho : o.op = .buildSlice t len parts) (hd : ∀ k, o.dst = some k → k < N) (hK : SGood (estep o.dst (.bslr e i.size len ps) s) (Serves w0 okA ext N K)) : o.wp P a w K Q := by
 simp only [estep] at hK
 have hplen0 : ps.length = parts.toList.length := mapM_len hps
 split at hK
 ·rename_i k es hdst hes
  have hes0 : es.length = ps.length := mapM_len hes
  have hplen : parts.toList.length = len := by have := congrArg List.length hidx; simpa using this
  have hcs : ∀ (k : Nat) (p : Nat × Operand), parts.toList[k]? = some p → ∃ x : List Cel, es[k]? = some x ∧ CsRel w (okE w0 okA E) w0.heap.size E x (a.eval p.2).cells.toList := fun k p hp => by
   have h1 := mapM_at hps hp
   have hk : k < ps.length := by have := (List.getElem?_eq_some_iff.1 hp).1; omega
   have h2 : ps[k]? = some ps[k] := List.getElem?_eq_getElem hk
   have h3 := mapM_at hes h2
   have h4 : es[k]? = some es[k] := List.getElem?_eq_getElem (by omega)
   rw [h4] at h3
   exact ⟨es[k], h4, (ev_rel h (h1.symm.trans h2)).cells h3.symm⟩
  have hpl : ps.length = len := by omega
  rw [hpl] at hK
  split at hK
  ·rename_i hs
   split at hK
   ·rename_i hcond
    exact s_bslRow h hu hi hidx hz0 hsm hl0 hzero hs hdst (by omega) hplen hcs ho hd (by unfold bslRow; rw [if_pos hcond]; exact hK)
   ·split at hK
    ·rename_i j q hmv
     split at hK
     ·rename_i hne
      obtain ⟨h1, h2, h3⟩ := mvR_some hmv
      obtain ⟨E', hst, hle, hokb, hrw, hmc⟩ := h.mv h1 h2 h3
      exact s_bslRow hst hu hi hidx hz0 hsm hl0 hzero ((hrw k (Ne.symm hne)).trans hs) hdst (by rw [List.length_map]; omega) hplen (fun k p hp => by
       obtain ⟨x, h4, h5⟩ := hcs k p hp
       exact ⟨x.map (mvF j q), by rw [List.getElem?_map, h4]; rfl, hmc h5⟩) ho hd hK
     ·exact hK.elim
    ·exact hK.elim
  ·exact hK.elim
 ·exact hK.elim
end
end Go.Ai
namespace Go.Ai
open Go
set_option linter.unusedSimpArgs false
set_option linter.unusedVariables false
theorem kcode_inj {a b : IntKind} (h : kcode a = kcode b) : a = b := by
 cases a <;> cases b <;> first | rfl | (exact absurd h (by decide))
theorem kcode_pos (a : IntKind) : kcode a ≠ 0 := by cases a <;> decide
/-- The type of keys of a kind. -/
def keyT (c : Nat) : TypeDesc → Prop
 | .string => c % 16 = 0
 | .int q => c % 16 = kcode q
 | _ => False
theorem zeroMap_is {P : Program} {t : TypeId} {z : Nat × Value} (h : zeroMap P t = some z) : z.1 = 0 ∨ z.1 = 16 := by
 unfold zeroMap at h
 split at h
 ·split at h
  ·split at h
   ·simp only [Option.some.injEq] at h; subst h; exact .inr rfl
   ·cases h
  ·split at h
   ·simp only [Option.some.injEq] at h; subst h; exact .inl rfl
   ·cases h
  ·cases h
 ·cases h
theorem zeroAdd_is (P : Program) (t : TypeId) : zeroAdd P t = 0 ∨ zeroAdd P t = 16 := by
 unfold zeroAdd
 cases hz : zeroMap P t with
 | none => exact .inl rfl
 | some z => exact zeroMap_is hz
theorem kcode_lt (a : IntKind) : kcode a < 16 := by cases a <;> decide
theorem map_of {P : Program} {t : TypeId} {p : Nat × TypeId} (h : mapOf P t = some p) : ∃ kt d, P.underlying t = some (.map kt p.2) ∧ P.underlying kt = some d ∧ keyT p.1 d := by
 unfold mapOf at h
 split at h
 ·rename_i kt et hu
  simp only [Option.map_eq_some_iff] at h
  obtain ⟨c, hc, rfl⟩ := h
  have hz := zeroAdd_is P et
  unfold keyC at hc
  split at hc
  ·rename_i hk; simp only [Option.some.injEq] at hc; subst hc; exact ⟨kt, _, hu, hk, by show (0 + zeroAdd P et) % 16 = 0; omega⟩
  ·rename_i q hk; simp only [Option.some.injEq] at hc; subst hc; exact ⟨kt, _, hu, hk, by show (kcode q + zeroAdd P et) % 16 = kcode q; have := kcode_lt q; omega⟩
  ·cases hc
 ·cases h
theorem map_kind {P : Program} {t : TypeId} {p : Nat × TypeId} {z : Nat × Value} (h : mapOf P t = some p) (hz : zeroMap P p.2 = some z) : (z.1 = 0 ∧ p.1 < 16) ∨ (z.1 = 16 ∧ 16 ≤ p.1) := by
 unfold mapOf at h
 split at h
 ·rename_i kt et hu
  simp only [Option.map_eq_some_iff] at h
  obtain ⟨c, hc, rfl⟩ := h
  have he : zeroAdd P et = z.1 := by unfold zeroAdd; rw [hz]
  have h2 := zeroAdd_is P et
  have h3 : c < 16 := by
   unfold keyC at hc
   split at hc
   ·simp only [Option.some.injEq] at hc; omega
   ·rename_i q _; simp only [Option.some.injEq] at hc; have := kcode_lt q; omega
   ·cases hc
  simp only
  omega
 ·cases h
theorem keyOk_inv {c : Nat} {k : Value} (h : keyOk c k = true) : (∃ s, k = .string s ∧ c % 16 = 0) ∨ ∃ q n, k = .int q n ∧ c % 16 = kcode q := by
 cases k <;> simp [keyOk] at h
 ·exact .inr ⟨_, _, rfl, h⟩
 ·exact .inl ⟨_, rfl, h⟩
theorem key_one {c : Nat} {k : Value} (h : keyOk c k = true) : k.oneCell' = true := by
 rcases keyOk_inv h with ⟨s, rfl, _⟩ | ⟨q, n, rfl, _⟩ <;> rfl
theorem isKey_of {c : Nat} {d : TypeDesc} {k : Value} (hd : keyT c d) (h : keyOk c k = true) : MapKept.IsKey d k := by
 rcases keyOk_inv h with ⟨s, rfl, hc⟩ | ⟨q, n, rfl, hc⟩
 ·cases d <;> simp only [keyT] at hd
  ·exact absurd (hd.symm.trans hc) (kcode_pos _)
  ·trivial
 ·cases d <;> simp only [keyT] at hd
  ·exact kcode_inj (hc.symm.trans hd)
  ·exact absurd (hc.symm.trans hd) (kcode_pos _)
theorem keyEq_iff {c : Nat} {a b : Value} (ha : keyOk c a = true) (hb : keyOk c b = true) : keyEq a b = true ↔ a = b := by
 rcases keyOk_inv ha with ⟨s, rfl, hc⟩ | ⟨q, n, rfl, hc⟩ <;> rcases keyOk_inv hb with ⟨s', rfl, h'⟩ | ⟨q', n', rfl, h'⟩
 ·simp [keyEq, MapKept.bytes_beq]
 ·exact absurd (h'.symm.trans hc) (kcode_pos _)
 ·exact absurd (hc.symm.trans h') (kcode_pos _)
 ·have := kcode_inj (hc.symm.trans h'); subst this
  simp [keyEq]
theorem same_key {c : Nat} {d : TypeDesc} {a b : Value} (hd : keyT c d) (ha : keyOk c a = true) (hb : keyOk c b = true) : Instr.sameNow d a b = some (keyEq a b) := by
 obtain ⟨r, h1, h2⟩ := MapKept.sameNow_of_keys (isKey_of hd ha) (isKey_of hd hb)
 rw [h1]
 have h3 := keyEq_iff ha hb
 cases r <;> cases hk : keyEq a b <;> simp_all
/-- Entries, cell by cell. -/
def mRel (w : World) (ok : Nat → Prop) (base c : Nat) : List (List Cel) → List MapEntry → Prop
 | [], [] => True
 | e :: es, x :: l => (∃ cv, e = [.g x.key, cv] ∧ (keyOk c x.key = true ∧ vOk c x.val) ∧ cv.isD = true ∧ CRel0 w ok base Env.none cv (encV x.val)) ∧ mRel w ok base c es l
 | _, _ => False
section
variable {w : World} {ok : Nat → Prop} {base c : Nat}
theorem mRel_of : ∀ {es : List (List Cel)} {l : List MapEntry}, mapOk es → l.length = es.length → (∀ x ∈ l, keyOk c x.key = true ∧ vOk c x.val) → RRel w ok base es.flatten (l.map fun x => [x.key, encV x.val]).flatten → mRel w ok base c es l
 | [], [], _, _, _, _ => trivial
 | [], x :: l, _, h, _, _ => by simp at h
 | e :: es, [], _, h, _, _ => by simp at h
 | e :: es, x :: l, hm, hl, hk, hr => by
  obtain ⟨k, cv, rfl⟩ := hm e (by simp)
  have h0 := hr.2 0 (.g k) x.key (by simp) (by simp)
  have h1 := hr.2 1 cv (encV x.val) (by simp) (by simp)
  obtain ⟨h2, _⟩ : x.key = k ∧ k.oneCell' = true := h0.2
  refine ⟨⟨cv, by rw [h2], hk x (by simp), h1⟩, mRel_of (fun e he => hm e (by simp [he])) (by simpa using hl) (fun y hy => hk y (by simp [hy])) ?_⟩
  have h3 := hr.drop 2
  simpa using h3
theorem mRel_to : ∀ {es : List (List Cel)} {l : List MapEntry}, mRel w ok base c es l → mapOk es ∧ l.length = es.length ∧ (∀ x ∈ l, keyOk c x.key = true ∧ vOk c x.val) ∧ RRel w ok base es.flatten (l.map fun x => [x.key, encV x.val]).flatten
 | [], [], _ => ⟨fun e he => by simp at he, rfl, fun x hx => by simp at hx, .nil⟩
 | [], x :: l, h => h.elim
 | e :: es, [], h => h.elim
 | e :: es, x :: l, h => by
  obtain ⟨⟨cv, rfl, h1, h2, h3⟩, h4⟩ := h
  obtain ⟨i1, i2, i3, i4⟩ := mRel_to h4
  refine ⟨fun e he => ?_, by simp [i2], fun y hy => ?_, ?_⟩
  ·rcases List.mem_cons.1 he with rfl | he
   ·exact ⟨_, _, rfl⟩
   ·exact i1 e he
  ·rcases List.mem_cons.1 hy with rfl | hy
   ·exact h1
   ·exact i3 y hy
  ·simp only [List.flatten_cons, List.map_cons]
   refine RRel.append ⟨rfl, fun i c0 u hc hu => ?_⟩ i4
   match i with
   | 0 => simp at hc hu; subst hc; subst hu; exact ⟨rfl, rfl, key_one h1.1⟩
   | 1 => simp at hc hu; subst hc; subst hu; exact ⟨h2, h3⟩
   | i + 2 => simp at hc
/-- Where a key is, and what becomes of the entries when it is laid. -/
theorem find_rel {d : TypeDesc} {k : Value} (hd : keyT c d) (hk : keyOk c k = true) : ∀ {es : List (List Cel)} {l : List MapEntry}, mRel w ok base c es l → ∀ i : Nat,
  (Instr.findNow d k l i = some none ∧ mget k es = none ∧ ∀ cv v b, cv.isD = true → CRel0 w ok base Env.none cv (encV v) → vOk c v → mRel w ok base c (mput k cv es) (l ++ [⟨k, v, b⟩])) ∨
  (∃ j x c0, Instr.findNow d k l i = some (some (i + j, x.val)) ∧ l[j]? = some x ∧ x.key = k ∧ mget k es = some c0 ∧ c0.isD = true ∧ CRel0 w ok base Env.none c0 (encV x.val) ∧ vOk c x.val ∧
   ∀ cv v, cv.isD = true → CRel0 w ok base Env.none cv (encV v) → vOk c v → mRel w ok base c (mput k cv es) (l.modify j fun y => { y with key := k, val := v }))
 | [], [], _, i => .inl ⟨rfl, rfl, fun cv v b h1 h2 h0 => ⟨⟨cv, rfl, ⟨hk, h0⟩, h1, h2⟩, trivial⟩⟩
 | [], x :: l, h, _ => h.elim
 | e :: es, [], h, _ => h.elim
 | e :: es, x :: l, h, i => by
  obtain ⟨⟨cv, rfl, h1, h2, h3⟩, h4⟩ := h
  have hs := same_key hd hk h1.1
  cases hq : keyEq k x.key with
  | true =>
   rw [hq] at hs
   have he : k = x.key := (keyEq_iff hk h1.1).1 hq
   refine .inr ⟨0, x, cv, by simp [Instr.findNow, hs], rfl, he.symm, by simp [mget, mkey, hq], h2, h3, h1.2, fun cv' v h5 h6 h0 => ?_⟩
   simp only [mput, mkey, hq, if_true, List.modify_zero_cons]
   exact ⟨⟨cv', rfl, ⟨hk, h0⟩, h5, h6⟩, h4⟩
  | false =>
   rw [hq] at hs
   rcases find_rel hd hk h4 (i + 1) with ⟨i1, i2, i3⟩ | ⟨j, x', c0, i1, i2, i3, i4, i5, i6, i8, i7⟩
   ·refine .inl ⟨by simp [Instr.findNow, hs, i1], by simp [mget, mkey, hq, i2], fun cv' v b h5 h6 h0 => ?_⟩
    simp only [mput, mkey, hq, List.cons_append]
    exact ⟨⟨cv, rfl, h1, h2, h3⟩, i3 cv' v b h5 h6 h0⟩
   ·refine .inr ⟨j + 1, x', c0, by simp [Instr.findNow, hs, i1]; omega, by simpa using i2, i3, by simp [mget, mkey, hq, i4], i5, i6, i8, fun cv' v h5 h6 h0 => ?_⟩
    simp only [mput, mkey, hq, List.modify_succ_cons]
    exact ⟨⟨cv, rfl, h1, h2, h3⟩, i7 cv' v h5 h6 h0⟩
theorem mRel_ne {k : Value} (hk : keyOk c k = true) : ∀ {es : List (List Cel)} {l : List MapEntry}, mRel w ok base c es l → mget k es = none → ∀ x ∈ l, x.key ≠ k
 | [], [], _, _, x, hx => by cases hx
 | e :: es, x :: l, h, hm, y, hy => by
  obtain ⟨⟨cv, rfl, h1, h2, h3⟩, h4⟩ := h
  simp only [mget] at hm
  cases hq : keyEq k x.key with
  | true => simp [mkey, hq] at hm
  | false =>
   simp [mkey, hq] at hm
   rcases List.mem_cons.1 hy with rfl | hy
   ·exact fun he => by rw [(keyEq_iff hk h1.1).2 he.symm] at hq; cases hq
   ·exact mRel_ne hk h4 hm y hy
theorem del_rel {d : TypeDesc} {k : Value} (hd : keyT c d) (hk : keyOk c k = true) : ∀ {es : List (List Cel)} {l : List MapEntry}, mRel w ok base c es l → ∀ i : Nat,
  (Instr.findNow d k l i = some none ∧ mdel k es = es) ∨ (∃ j v, Instr.findNow d k l i = some (some (i + j, v)) ∧ j < l.length ∧ mRel w ok base c (mdel k es) (l.eraseIdx j))
 | [], [], _, i => .inl ⟨rfl, rfl⟩
 | [], x :: l, h, _ => h.elim
 | e :: es, [], h, _ => h.elim
 | e :: es, x :: l, h, i => by
  obtain ⟨⟨cv, rfl, h1, h2, h3⟩, h4⟩ := h
  have hs := same_key hd hk h1.1
  cases hq : keyEq k x.key with
  | true =>
   rw [hq] at hs
   exact .inr ⟨0, x.val, by simp [Instr.findNow, hs], by simp, by simpa [mdel, mkey, hq] using h4⟩
  | false =>
   rw [hq] at hs
   rcases del_rel hd hk h4 (i + 1) with ⟨i1, i2⟩ | ⟨j, v, i1, i2, i3⟩
   ·exact .inl ⟨by simp [Instr.findNow, hs, i1], by simp [mdel, mkey, hq, i2]⟩
   ·refine .inr ⟨j + 1, v, by simp [Instr.findNow, hs, i1]; omega, by simp; omega, ?_⟩
    simp only [mdel, mkey, hq, List.eraseIdx_cons_succ]
    exact ⟨⟨cv, rfl, h1, h2, h3⟩, i3⟩
theorem gvs_rel {E : Env} : ∀ {cs : List Cel} {vs us : List Value}, gvs cs = some vs → CsRel w ok base E cs us → us = vs ∧ ∀ x ∈ vs, x.oneCell' = true
 | [], vs, us, h, hr => by
  simp only [gvs, Option.some.injEq] at h; subst h
  have h1 : us = [] := List.eq_nil_of_length_eq_zero (by have := hr.1; simpa using this.symm)
  subst h1; simp
 | c :: cs, vs, [], h, hr => by have := hr.1; simp at this
 | c :: cs, vs, u :: us, h, hr => by
  cases c
  case g v =>
   simp only [gvs, Option.map_eq_some_iff] at h
   obtain ⟨vs', h1, rfl⟩ := h
   have h2 := hr.2 0 (.g v) u rfl rfl
   obtain ⟨rfl, h3⟩ : u = v ∧ v.oneCell' = true := h2
   obtain ⟨rfl, h5⟩ := gvs_rel (vs := vs') (us := us) h1 ⟨by have := hr.1; simpa using this, fun i c u' a b => hr.2 (i + 1) c u' (by simpa using a) (by simpa using b)⟩
   refine ⟨rfl, fun x hx => ?_⟩
   rcases List.mem_cons.1 hx with rfl | hx
   ·exact h3
   ·exact h5 x hx
  all_goals (simp [gvs] at h)
theorem mcel_rel {E E' : Env} {x : Val} {v : Value} {cl : Cel} (hr : VRel w ok base E x v) (h : mcel c x = some cl) (hD : cl.isD = true) : CRel0 w ok base E' cl (encV v) ∧ vOk c v := by
 unfold vOk
 cases hr with
 | one h1 =>
  simp only [mcel] at h
  split at h
  ·rename_i hc
   simp only [Option.some.injEq] at h; subst h
   have h2 := h1.oneC
   rw [if_pos hc, encV_one h2]
   exact ⟨h1.ofD hD, h2⟩
  ·cases h
 | ag h1 =>
  simp only [mcel] at h
  split at h
  ·cases h
  ·rename_i hc
   simp only [Option.map_eq_some_iff] at h
   obtain ⟨vs, h2, rfl⟩ := h
   obtain ⟨rfl, h3⟩ := gvs_rel h2 h1
   rw [if_neg hc]
   exact ⟨⟨rfl, rfl⟩, _, rfl, h3⟩
 | tu => simp [mcel] at h
 | any => simp [mcel] at h
theorem dec_rel {E : Env} {v : Value} {cl : Cel} (h : CRel0 w ok base E cl (encV v)) (hv : vOk c v) : VRel w ok base E (decV c cl) v := by
 unfold vOk at hv
 unfold decV
 split at hv
 ·rename_i hc
  rw [if_pos hc]
  rw [encV_one hv] at h
  exact .one h.toC
 ·rename_i hc
  rw [if_neg hc]
  obtain ⟨vs, rfl, h1⟩ := hv
  unfold decA
  split
  ·obtain ⟨h2, _⟩ : encV (.agg vs.toArray) = _ ∧ _ := h
   simp only [encV, Value.iface.injEq, Value.agg.injEq] at h2
   obtain ⟨_, rfl⟩ := h2
   exact .ag (CsRel.gs vs h1)
  ·exact .any
end
section
variable {P : Program} {w0 w w' : World} {okA : Nat → Prop} {ext : Ext} {N : Nat} {s : AS} {a : Act} {E : Env} {o : Oper} {K : Act → World → Prop} {Q : Exit → Act → World → Prop}
theorem s_mkm (h : St w0 okA ext N s a w E) {t : TypeId} {r : Option Operand} {kc : Nat} {kt et : TypeId} (hu : P.underlying t = some (.map kt et)) (hr : r = none ∨ ∃ q n, r = some (.const (.int q n)))
  (ho : o.op = .makeMap t r) (hd : ∀ k, o.dst = some k → k < N) (hK : SGood (estep o.dst (.mkm kc) s) (Serves w0 okA ext N K)) : o.wp P a w K Q := by
 cases hdst : o.dst with
 | none => rw [hdst] at hK; simp only [estep] at hK; exact hK.elim
 | some k =>
  rw [hdst] at hK
  simp only [estep] at hK
  split at hK
  ·rename_i hs
   split at hK
   ·have hst := h.newG (w1 := w.alloc (.map #[] 0)) (World.grownBy_alloc w _ none) (k := k) (r := ⟨0, kc, 0, []⟩) (u := .map (some w.heap.size)) (c := .mp k) (vs := []) hs (hd k hdst) rfl ⟨fun h0 => by simp only at h0; omega, fun _ e he => by simp at he⟩ rfl
     (fun E' ok base he => ⟨rfl, 0, _, he, rfl⟩) (.inr ⟨rfl, w.heap.size, #[], 0, rfl, Nat.zero_le _, (MapKept.heap_alloc w _).1, ⟨rfl, MapKept.stamped_empty 0⟩, rfl, fun e he => by simp at he⟩) .nil
    refine wp_value (v := .map (some w.heap.size)) (w' := w.alloc (.map #[] 0)) ?_ (by rw [hdst]; exact hK _ _ _ hst)
    rcases hr with rfl | ⟨q, n, rfl⟩
    ·simp [execOp, ho, Instr.makeMap, Result.andThen]
    ·simp [execOp, ho, Instr.makeMap, run_underlying hu, Act.eval, asInt, asIntOf, Result.andThen]
   ·exact hK.elim
  ·exact hK.elim
/-- The map in a slot. -/
theorem map_at (h : St w0 okA ext N s a w E) {x : Operand} {y : Opd} {k : Nat} {r : Row} (hx : opd x = some y) (hv : s.ev y = .one (.mp k)) (hs : s.rw k = some r) :
  ∃ b es clock, r.z = 0 ∧ a.eval x = .map (some b) ∧ E.rm k = some (r.ver, r.z, .map (some b)) ∧ r.ver = 0 ∧ w.heap[b]? = some (.map es clock) ∧ mRel w (okE w0 okA E) w0.heap.size r.E r.es es.toList ∧ MapKept.Stamped es clock := by
 obtain ⟨_, ver', u, hm, hxu⟩ := one_c (ev_rel h hx) hv
 obtain ⟨h1, h2, u', vs, hm', hown, hrel⟩ := h.rw k r hs
 rw [hm] at hm'
 simp only [Option.some.injEq, Prod.mk.injEq] at hm'
 obtain ⟨rfl, hz, rfl⟩ := hm'
 rcases hown with ⟨h0, _⟩ | ⟨_, b, es, clock, rfl, _, hb, ⟨hsz, hstp⟩, rfl, hkeys⟩
 ·omega
 ·exact ⟨b, es, clock, hz.symm, hxu, by rw [hm, ← hz], h1 hz.symm, hb, mRel_of (h2.2 hz.symm) (by simpa using hsz) hkeys hrel, hstp⟩
theorem s_mup (h : St w0 okA ext N s a w E) {t kt et : TypeId} {d : TypeDesc} {x kx vx : Operand} {y ky vy : Opd} {kc : Nat} (hx : opd x = some y) (hkx : opd kx = some ky) (hvx : opd vx = some vy)
  (hu : P.underlying t = some (.map kt et)) (hud : P.underlying kt = some d) (hd0 : keyT kc d)
  (ho : o.op = .mapUpdate t x kx vx ∨ o.op = .insert t x kx vx) (hd : ∀ k, o.dst = some k → k < N) (hK : SGood (estep o.dst (.mup kc y ky vy) s) (Serves w0 okA ext N K)) : o.wp P a w K Q := by
 simp only [estep] at hK
 split at hK
 ·rename_i k kv c hv hkv hcv
  split at hK
  ·rename_i r hs
   split at hK
   ·rename_i hcond
    obtain ⟨hz, hE, hkey, hD⟩ := hcond
    obtain ⟨b, es, clock, _, hxe, hm, hver, hb, hmr, hstp⟩ := map_at h hx hv hs
    have hke := one_g (ev_rel h hkx) hkv
    obtain ⟨hve', hvo⟩ := mcel_rel (E' := Env.none) (ev_rel h hvx) hcv hD
    rw [hE] at hmr
    have hlt : b < w.heap.size := (Array.getElem?_eq_some_iff.1 hb).1
    have hrun : ∃ es' clock', (Instr.mapUpdate t (.map (some b)) kv (a.eval vx)).run P w = .ok () { w with heap := w.heap.setIfInBounds b (.map es' clock') } ∧ mRel w (okE w0 okA E) w0.heap.size kc (mput kv c r.es) es'.toList ∧ MapKept.Stamped es' clock' := by
     rcases find_rel hd0 hkey hmr 0 with ⟨i1, i2, i3⟩ | ⟨j, x', c0, i1, i2, i3, i4, i5, i6, i8, i7⟩
     ·refine ⟨es.push ⟨kv, a.eval vx, clock⟩, clock + 1, ?_, by simpa using i3 c (a.eval vx) clock hD hve' hvo, MapKept.stamped_push hstp (mRel_ne hkey hmr i2)⟩
      simp [Instr.mapUpdate, run_underlying hu, MapKept.run_getObj_map hb, MapKept.run_checkKey hud (isKey_of hd0 hkey), MapKept.run_findKey hud i1, MapKept.run_setObj_map _ hb, Result.andThen]
     ·have hj : es[j]? = some x' := by simpa using i2
      refine ⟨es.modify j fun e => { e with key := kv, val := a.eval vx }, clock, ?_, by simpa using i7 c (a.eval vx) hD hve' hvo, MapKept.stamped_modify hstp _ _ (fun _ _ => rfl) fun e _ he => by rw [hj] at he; cases he; exact i3.symm⟩
      simp [Instr.mapUpdate, run_underlying hu, MapKept.run_getObj_map hb, MapKept.run_checkKey hud (isKey_of hd0 hkey), MapKept.run_findKey hud i1, hj, i3, MapKept.run_keyThatStays (isKey_of hd0 hkey), MapKept.run_setObj_map _ hb, Result.andThen]
    obtain ⟨es', clock', hrun, hmr', hstp'⟩ := hrun
    have hgr : w.grownBy { w with heap := w.heap.setIfInBounds b (.map es' clock') } (some b) := ⟨rfl, rfl, rfl, by simp, fun i _ hi => (MapKept.heap_set hb).2 i (fun e => hi (by rw [e]))⟩
    obtain ⟨j1, j2, j3, j4⟩ := mRel_to hmr'
    have hst := h.rowTurnG (w' := { w with heap := w.heap.setIfInBounds b (.map es' clock') }) (r' := { r with es := mput kv c r.es }) (u' := .map (some b)) (vs' := (es'.toList.map fun e => [e.key, encV e.val]).flatten) hs hm rfl (Nat.le_refl _) (fun _ => hver) (fun _ => rfl)
     ⟨fun h0 => by simp only at h0; omega, fun _ => j1⟩ hgr (.inr ⟨hz, b, es', clock', rfl, Nat.zero_le _, (MapKept.heap_set hb).1, ⟨by simpa using j2, hstp'⟩, rfl, by simp only [hE]; exact j3⟩) j4 (.inl rfl)
    refine wp_skip_ (w' := { w with heap := w.heap.setIfInBounds b (.map es' clock') }) ?_ (hK _ _ _ (hst.put .any hd))
    rcases ho with ho | ho <;> simp [execOp, ho, hxe, hke, hrun, Result.andThen]
   ·exact hK.elim
  ·exact hK.elim
 ·exact hK.elim
theorem s_mdl (h : St w0 okA ext N s a w E) {t t2 kt et : TypeId} {d : TypeDesc} {x kx : Operand} {y ky : Opd} {kc : Nat} (hx : opd x = some y) (hkx : opd kx = some ky)
  (hu : P.underlying t = some (.map kt et)) (hud : P.underlying kt = some d) (hd0 : keyT kc d)
  (ho : o.op = .call { callee := .builtin .delete, args := #[x, kx], argTypes := #[t, t2] }) (hd : ∀ k, o.dst = some k → k < N) (hK : SGood (estep o.dst (.mdl kc y ky) s) (Serves w0 okA ext N K)) : o.wp P a w K Q := by
 simp only [estep] at hK
 split at hK
 ·rename_i k kv hv hkv
  split at hK
  ·rename_i r hs
   split at hK
   ·rename_i hcond
    obtain ⟨hz, hE, hkey⟩ := hcond
    obtain ⟨b, es, clock, _, hxe, hm, hver, hb, hmr, hstp⟩ := map_at h hx hv hs
    have hke := one_g (ev_rel h hkx) hkv
    rw [hE] at hmr
    have hlt : b < w.heap.size := (Array.getElem?_eq_some_iff.1 hb).1
    have hrun : ∃ es', (Builtin.delete_ #[t, t2] o.type #[.map (some b), kv]).run P w = .ok (.tuple #[]) { w with heap := w.heap.setIfInBounds b (.map es' clock) } ∧ mRel w (okE w0 okA E) w0.heap.size kc (mdel kv r.es) es'.toList ∧ MapKept.Stamped es' clock := by
     rcases del_rel hd0 hkey hmr 0 with ⟨i1, i2⟩ | ⟨j, v, i1, i2, i3⟩
     ·refine ⟨es, ?_, by rw [i2]; exact hmr, hstp⟩
      simp [Builtin.delete_, run_underlying hu, MapKept.run_getObj_map hb, MapKept.run_checkKey hud (isKey_of hd0 hkey), MapKept.run_findKey hud i1, MapKept.run_setObj_map _ hb, Result.andThen]
     ·refine ⟨es.eraseIdxIfInBounds j, ?_, by simpa using i3, MapKept.stamped_erase hstp j⟩
      simp [Builtin.delete_, run_underlying hu, MapKept.run_getObj_map hb, MapKept.run_checkKey hud (isKey_of hd0 hkey), MapKept.run_findKey hud i1, MapKept.run_setObj_map _ hb, Result.andThen]
    obtain ⟨es', hrun, hmr', hstp'⟩ := hrun
    have hgr : w.grownBy { w with heap := w.heap.setIfInBounds b (.map es' clock) } (some b) := ⟨rfl, rfl, rfl, by simp, fun i _ hi => (MapKept.heap_set hb).2 i (fun e => hi (by rw [e]))⟩
    obtain ⟨j1, j2, j3, j4⟩ := mRel_to hmr'
    have hst := h.rowTurnG (w' := { w with heap := w.heap.setIfInBounds b (.map es' clock) }) (r' := { r with es := mdel kv r.es }) (u' := .map (some b)) (vs' := (es'.toList.map fun e => [e.key, encV e.val]).flatten) hs hm rfl (Nat.le_refl _) (fun _ => hver) (fun _ => rfl)
     ⟨fun h0 => by simp only at h0; omega, fun _ => j1⟩ hgr (.inr ⟨hz, b, es', clock, rfl, Nat.zero_le _, (MapKept.heap_set hb).1, ⟨by simpa using j2, hstp'⟩, rfl, by simp only [hE]; exact j3⟩) j4 (.inl rfl)
    refine wp_value (v := .tuple #[]) (w' := { w with heap := w.heap.setIfInBounds b (.map es' clock) }) ?_ (hK _ _ _ (hst.put .any hd))
    simp [execOp, ho, resolve, invoke, builtin, hxe, hke, hrun, Result.andThen]
   ·exact hK.elim
  ·exact hK.elim
 ·exact hK.elim
theorem zeroMap_run {t : TypeId} {z : Nat × Value} {kc : Nat} (h : zeroMap P t = some z) (hk : (z.1 = 0 ∧ kc < 16) ∨ (z.1 = 16 ∧ 16 ≤ kc)) : ∃ v, (zeroValue t).run P w = .ok v w ∧ z.2 = encV v ∧ vOk kc v ∧ z.2.oneCell' = true := by
 unfold zeroMap at h
 split at h
 ·rename_i i hi
  split at h
  ·rename_i cs hv
   split at h
   ·rename_i hone; simp only [Option.some.injEq] at h; subst h
    refine ⟨.agg cs, by simp [zeroValue, typeInfo, hi, hv, Result.andThen], rfl, ?_, rfl⟩
    unfold vOk
    rw [if_neg (by simp only at hk; omega)]
    exact ⟨cs.toList, rfl, fun x hx => List.all_eq_true.1 hone x hx⟩
   ·cases h
  ·rename_i v _ hv
   split at h
   ·rename_i hone; simp only [Option.some.injEq] at h; subst h
    refine ⟨v, by simp [zeroValue, typeInfo, hi, hv, Result.andThen], (encV_one hone).symm, ?_, hone⟩
    unfold vOk
    rw [if_pos (by simp only at hk; omega)]
    exact hone
   ·cases h
  ·cases h
 ·cases h
theorem mgetF_eq (k : Value) : ∀ es : List (List Cel), mgetF k es = mget k (datE es)
 | [] => rfl
 | e :: es => by
  have hm : mkey k (e.map Cel.dat) = mkey k e := by
   cases e with
   | nil => rfl
   | cons c e => cases c <;> rfl
  have h1 : datE (e :: es) = e.map Cel.dat :: datE es := rfl
  rw [h1, mget, mgetF, hm, mgetF_eq k es, List.getElem?_map]
theorem mRel_fm {ok : Nat → Prop} {base kc : Nat} {es : List (List Cel)} {v : Value} (h : DRel w ok (.fm kc es) v) :
  ∃ b ms clock, v = .map (some b) ∧ w.heap[b]? = some (.map ms clock) ∧ mRel w ok base kc (datE es) ms.toList := by
 have key : ∀ (es : List (List Cel)) (l : List MapEntry), es.length = l.length → (∀ (i : Nat) (e : MapEntry), l[i]? = some e → (keyOk kc e.key = true ∧ vOk kc e.val) ∧ ∃ c0, es[i]? = some [.g e.key, c0] ∧ DRel w ok c0 (encV e.val)) → mRel w ok base kc (datE es) l := fun es => by
  induction es with
  | nil => intro l hl _; cases l with
   | nil => trivial
   | cons x l => simp at hl
  | cons e es ih =>
   intro l hl hx
   cases l with
   | nil => simp at hl
   | cons x l =>
    obtain ⟨h1, c0, h2, h3⟩ := hx 0 x rfl
    simp at h2; subst h2
    have h4 := dat_isD (base := base) h3
    exact ⟨⟨c0.dat, rfl, h1, h4.1, h4.2⟩, ih l (by simpa using hl) fun i e he => by simpa using hx (i + 1) e (by simpa using he)⟩
 cases h with
 | fm cs h1 h2 h3 h4 h5 h6 => exact ⟨_, _, _, rfl, h3, key es _ (by simpa using h4.1) fun i e he => ⟨⟨(h5 i e he).1, (h5 i e he).2.2⟩, cs i, (h5 i e he).2.1, h6 i e he⟩⟩
theorem zeroC_rel {ok : Nat → Prop} {base zn : Nat} {z : Value} {E' : Env} (h : z.oneCell' = true) : CRel0 w ok base E' (zeroC zn z) z := by
 unfold zeroC
 split
 ·split
  ·exact ⟨rfl, h⟩
  ·exact DRel.nil
 ·exact ⟨rfl, h⟩
theorem s_mlk (h : St w0 okA ext N s a w E) {t kt et : TypeId} {d : TypeDesc} {x kx : Operand} {y ky : Opd} {kc zn : Nat} {ok : Bool} {z : Nat × Value} (hx : opd x = some y) (hkx : opd kx = some ky)
  (hu : P.underlying t = some (.map kt et)) (hud : P.underlying kt = some d) (hd0 : keyT kc d) (hz1 : zeroMap P et = some z) (hzk : (z.1 = 0 ∧ kc < 16) ∨ (z.1 = 16 ∧ 16 ≤ kc))
  (ho : o.op = .lookup t x kx ok) (hd : ∀ k, o.dst = some k → k < N) (hK : SGood (estep o.dst (.mlk kc z.2 ok zn y ky) s) (Serves w0 okA ext N K)) : o.wp P a w K Q := by
 simp only [estep] at hK
 split at hK
 ·rename_i k kv hv hkv
  split at hK
  ·rename_i r hs
   split at hK
   ·rename_i hcond
    obtain ⟨hz, hE, hkey⟩ := hcond
    obtain ⟨b, es, clock, _, hxe, hm, hver, hb, hmr, hstp⟩ := map_at h hx hv hs
    have hke := one_g (ev_rel h hkx) hkv
    obtain ⟨zv, hzr, hze, hzv, hzo⟩ := zeroMap_run (w := w) hz1 hzk
    rw [hE] at hmr
    have hrun : ∃ v, (Instr.lookup t (.map (some b)) kv ok).run P w = .ok (if ok then .tuple #[v, .bool (mget kv r.es).isSome] else v) w ∧ VRel w (okE w0 okA E) w0.heap.size E (decV kc ((mget kv r.es).getD (.g z.2))) v := by
     rcases find_rel hd0 hkey hmr 0 with ⟨i1, i2, _⟩ | ⟨j, x', c0, i1, i2, i3, i4, i5, i6, i8, _⟩
     ·refine ⟨zv, ?_, by rw [i2]; exact dec_rel (c := kc) ⟨hze.symm, hzo⟩ hzv⟩
      cases ok <;> simp [Instr.lookup, run_underlying hu, MapKept.run_getObj_map hb, MapKept.run_checkKey hud (isKey_of hd0 hkey), MapKept.run_findKey hud i1, hzr, i2, Result.andThen]
     ·refine ⟨x'.val, ?_, by rw [i4]; exact dec_rel (i6.ofD i5) i8⟩
      cases ok <;> simp [Instr.lookup, run_underlying hu, MapKept.run_getObj_map hb, MapKept.run_checkKey hud (isKey_of hd0 hkey), MapKept.run_findKey hud i1, i4, Result.andThen]
    obtain ⟨v, hrun, hrel⟩ := hrun
    refine wp_value (v := if ok then .tuple #[v, .bool (mget kv r.es).isSome] else v) (w' := w) ?_ (hK _ _ E (h.put ?_ hd))
    ·simp [execOp, ho, hxe, hke, hrun, Result.andThen]
    ·cases ok with
     | false => exact hrel
     | true =>
      refine .tu (us := [v, .bool (mget kv r.es).isSome]) rfl fun i x u h1 h2 => ?_
      match i with
      | 0 => simp at h1 h2; subst h1; subst h2; exact hrel
      | 1 => simp at h1 h2; subst h1; subst h2; exact .one ⟨rfl, rfl⟩
      | i + 2 => simp at h1
   ·exact hK.elim
  ·exact hK.elim
 ·rename_i kc' es0 kv hv hkv
  split at hK
  ·rename_i hcond
   obtain ⟨rfl, hkey⟩ := hcond
   obtain ⟨b, es, clock, hxe, hb, hmr⟩ := mRel_fm (base := w0.heap.size) (one_c (ev_rel h hx) hv)
   have hke := one_g (ev_rel h hkx) hkv
   obtain ⟨zv, hzr, hze, hzv, hzo⟩ := zeroMap_run (w := w) hz1 hzk
   have hrun : ∃ v, (Instr.lookup t (.map (some b)) kv ok).run P w = .ok (if ok then .tuple #[v, .bool (mgetF kv es0).isSome] else v) w ∧ VRel w (okE w0 okA E) w0.heap.size E (decV kc' ((mgetF kv es0).getD (zeroC zn z.2))) v := by
    rw [mgetF_eq]
    rcases find_rel hd0 hkey hmr 0 with ⟨i1, i2, _⟩ | ⟨j, x', c0, i1, i2, i3, i4, i5, i6, i8, _⟩
    ·refine ⟨zv, ?_, by rw [i2]; exact dec_rel (by rw [← hze]; exact zeroC_rel hzo) hzv⟩
     cases ok <;> simp [Instr.lookup, run_underlying hu, MapKept.run_getObj_map hb, MapKept.run_checkKey hud (isKey_of hd0 hkey), MapKept.run_findKey hud i1, hzr, i2, Result.andThen]
    ·refine ⟨x'.val, ?_, by rw [i4]; exact dec_rel (i6.ofD i5) i8⟩
     cases ok <;> simp [Instr.lookup, run_underlying hu, MapKept.run_getObj_map hb, MapKept.run_checkKey hud (isKey_of hd0 hkey), MapKept.run_findKey hud i1, i4, Result.andThen]
   obtain ⟨v, hrun, hrel⟩ := hrun
   refine wp_value (v := if ok then .tuple #[v, .bool (mgetF kv es0).isSome] else v) (w' := w) ?_ (hK _ _ E (h.put ?_ hd))
   ·simp [execOp, ho, hxe, hke, hrun, Result.andThen]
   ·cases ok with
    | false => exact hrel
    | true =>
     refine .tu (us := [v, .bool (mgetF kv es0).isSome]) rfl fun i x u h1 h2 => ?_
     match i with
     | 0 => simp at h1 h2; subst h1; subst h2; exact hrel
     | 1 => simp at h1 h2; subst h1; subst h2; exact .one ⟨rfl, rfl⟩
     | i + 2 => simp at h1
  ·exact hK.elim
 ·exact hK.elim
end
end Go.Ai

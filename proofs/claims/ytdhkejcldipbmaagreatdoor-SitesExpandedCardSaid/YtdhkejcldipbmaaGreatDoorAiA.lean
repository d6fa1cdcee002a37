/-
 The abstract layer: an interpreter over lists, for the loaded code. This text only defines; nothing is stated of any program.
 The abstract layer: what the relation between the abstract and the loaded state keeps over each kind of step.
 The abstract layer: a new box, a box that is written, a row that grows or is written, what is dropped.
 The abstract layer: what is dropped behind a region; what a callee sees; what is handed back.
-/
import Derived.WalkKit
import Derived.Orders
import Derived.Maps.AppendAt
import Derived.Laws.CopyRow
import Derived.Deep.Draws
import Derived.IntWalk
import Derived.Lib.LaidTab
namespace Go.Ai
open Go
set_option linter.unusedSimpArgs false
set_option linter.unusedVariables false
/-- One cell, abstractly. g: just this value; sl: a slice that nobody writes any more, as its elements' cells; ep: a pointer to such cells; bx: a pointer into a box of the call's own; ow: a row of the call's own; op: a pointer into it; fn: a function value. -/
inductive Cel where
 | g (v : Value)
 | sl (fr : Bool) (z : Nat) (es : List (List Cel))
 | ep (cs : List Cel)
 | bx (k off : Nat)
 | ow (k ver : Nat)
 | op (k ver i off : Nat)
 | os (k ver lo : Nat)
 | ws (k ver lo hi : Nat)
 | mp (k : Nat)
 | fm (kc : Nat) (es : List (List Cel))
 | fn (f : FuncId) (caps : List Cel)
 | mv (f : FuncId) (caps : List Cel)
 | any
inductive Val where
 | one (c : Cel)
 | ag (cs : List Cel)
 | tu (vs : List Val)
 | any
/-- Live boxes by key: their blocks; live rows by key: version and slice value. -/
structure Env where
 gm : Nat → Option Nat
 rm : Nat → Option (Nat × Nat × Value)
def Env.none : Env := ⟨fun _ => Option.none, fun _ => Option.none⟩
/-- The kind of a map's keys: 0: strings; else integers. -/
def kcode : IntKind → Nat
 | .i8 => 1 | .i16 => 2 | .i32 => 3 | .i64 => 4 | .u8 => 5 | .u16 => 6 | .u32 => 7 | .u64 => 8
def keyOk (c : Nat) : Value → Bool
 | .string _ => c % 16 == 0
 | .int q _ => c % 16 == kcode q
 | _ => false
/-- A map's value as one cell: what has several cells is wrapped. -/
def encV : Value → Value
 | .agg cs => .iface 0 (.agg cs)
 | v => v
/-- What a map of a kind may hold: one cell, or (from 16 on) several plain ones. -/
def vOk (c : Nat) (v : Value) : Prop := if c < 16 then v.oneCell' = true else ∃ vs : List Value, v = .agg vs.toArray ∧ ∀ x ∈ vs, x.oneCell' = true
theorem encV_one {v : Value} (h : v.oneCell' = true) : encV v = v := by
 cases v <;> first | rfl | (simp [Value.oneCell'] at h)
theorem encV_ok {c : Nat} {v : Value} (hc : c < 16) (h : vOk c v) : encV v = v := by
 unfold vOk at h; rw [if_pos hc] at h; exact encV_one h
inductive DRel (w : World) (ok : Nat → Prop) : Cel → Value → Prop
 | g {v : Value} : v.oneCell' = true → DRel w ok (.g v) v
 | any {v : Value} : v.oneCell' = true → DRel w ok .any v
 | nil {fr : Bool} {z : Nat} {a : Option Addr} {c : Nat} : DRel w ok (.sl fr z []) (.slice a 0 c)
 | sl {fr : Bool} {z : Nat} {es : List (List Cel)} {b off n c : Nat} (us : Nat → Nat → Value) : n = es.length → n ≤ c → ok b → b < w.heap.size → (∀ e ∈ es, e.length = z) →
   (∀ i e j x, es[i]? = some e → e[j]? = some x → w.cell? ⟨b, off + i * z + j, none⟩ = some (us i j)) →
   (∀ i e j x, es[i]? = some e → e[j]? = some x → DRel w ok x (us i j)) → DRel w ok (.sl fr z es) (.slice (some ⟨b, off, none⟩) n c)
 | fm {kc : Nat} {es : List (List Cel)} {b clock : Nat} {ms : Array MapEntry} (cs : Nat → Cel) : ok b → b < w.heap.size → w.heap[b]? = some (.map ms clock) → (es.length = ms.size ∧ MapKept.Stamped ms clock) →
   (∀ i e, ms.toList[i]? = some e → keyOk kc e.key = true ∧ es[i]? = some [.g e.key, cs i] ∧ vOk kc e.val) → (∀ i e, ms.toList[i]? = some e → DRel w ok (cs i) (encV e.val)) → DRel w ok (.fm kc es) (.map (some b))
 | ep {cs : List Cel} {b off : Nat} (us : Nat → Value) : ok b → b < w.heap.size → (∀ j x, cs[j]? = some x → w.cell? ⟨b, off + j, none⟩ = some (us j)) → (∀ j x, cs[j]? = some x → DRel w ok x (us j)) → DRel w ok (.ep cs) (.pointer (some ⟨b, off, none⟩))
/-- A cell that holds no function. -/
def CRel0 (w : World) (ok : Nat → Prop) (base : Nat) (E : Env) : Cel → Value → Prop
 | .g u, v => v = u ∧ u.oneCell' = true
 | .sl fr z es, v => DRel w (if fr then (fun b => base ≤ b ∧ ok b) else ok) (.sl fr z es) v
 | .ep cs, v => ∃ (b off : Nat) (us : Nat → Value), v = .pointer (some ⟨b, off, none⟩) ∧ ok b ∧ b < w.heap.size ∧ ∀ (j : Nat) (x : Cel), cs[j]? = some x → w.cell? ⟨b, off + j, none⟩ = some (us j) ∧ DRel w ok x (us j)
 | .bx k off, v => ∃ g, E.gm k = some g ∧ v = .pointer (some ⟨g, off, none⟩)
 | .ow k ver, v => v.oneCell' = true ∧ ∃ ver' z u, E.rm k = some (ver', z, u) ∧ ver ≤ ver' ∧ (ver = ver' → v = u) ∧ 0 < z
 | .op k ver i off, v => v.oneCell' = true ∧ ∃ ver' z u, E.rm k = some (ver', z, u) ∧ ver ≤ ver' ∧ (ver = ver' → ∃ g n c, u = .slice (some ⟨g, 0, none⟩) n c ∧ v = .pointer (some ⟨g, i * z + off, none⟩)) ∧ 0 < z
 | .os k ver lo, v => v.oneCell' = true ∧ ∃ ver' z u, E.rm k = some (ver', z, u) ∧ ver ≤ ver' ∧ (ver = ver' → ∃ g n c A, u = .slice (some ⟨g, 0, none⟩) n c ∧ lo ≤ n ∧ v = .slice (some A) (n - lo) (c - lo) ∧ (lo < n → A = ⟨g, lo * z, none⟩)) ∧ 0 < z
 | .ws k ver lo hi, v => v.oneCell' = true ∧ ∃ ver' z u, E.rm k = some (ver', z, u) ∧ ver ≤ ver' ∧ (ver = ver' → ∃ g n c A c', u = .slice (some ⟨g, 0, none⟩) n c ∧ lo ≤ hi ∧ hi ≤ n ∧ v = .slice (some A) (hi - lo) c' ∧ hi - lo ≤ c' ∧ (lo < hi → A = ⟨g, lo * z, none⟩)) ∧ 0 < z
 | .mp k, v => v.oneCell' = true ∧ ∃ ver' u, E.rm k = some (ver', 0, u) ∧ v = u
 | .fm kc es, v => DRel w ok (.fm kc es) v
 | .fn _ _, _ => False
 | .mv _ _, _ => False
 | .any, v => v.oneCell' = true
def CRel (w : World) (ok : Nat → Prop) (base : Nat) (E : Env) : Cel → Value → Prop
 | .fn f caps, v => ∃ us : List Value, v = .func (.func f) #[] us.toArray ∧ caps.length = us.length ∧ ∀ (i : Nat) (c : Cel) (u : Value), caps[i]? = some c → us[i]? = some u → CRel0 w ok base E c u
 | .mv f caps, v => ∃ us : List Value, v = .func (.func f) us.toArray #[] ∧ caps.length = us.length ∧ ∀ (i : Nat) (c : Cel) (u : Value), caps[i]? = some c → us[i]? = some u → CRel0 w ok base E c u
 | c, v => CRel0 w ok base E c v
def CsRel (w : World) (ok : Nat → Prop) (base : Nat) (E : Env) (cs : List Cel) (us : List Value) : Prop :=
 cs.length = us.length ∧ ∀ (i : Nat) (c : Cel) (u : Value), cs[i]? = some c → us[i]? = some u → CRel w ok base E c u
inductive VRel (w : World) (ok : Nat → Prop) (base : Nat) (E : Env) : Val → Value → Prop
 | one {c : Cel} {v : Value} : CRel w ok base E c v → VRel w ok base E (.one c) v
 | ag {cs : List Cel} {us : List Value} : CsRel w ok base E cs us → VRel w ok base E (.ag cs) (.agg us.toArray)
 | tu {vs : List Val} {us : List Value} : vs.length = us.length → (∀ (i : Nat) (x : Val) (u : Value), vs[i]? = some x → us[i]? = some u → VRel w ok base E x u) → VRel w ok base E (.tu vs) (.tuple us.toArray)
 | any {v : Value} : VRel w ok base E .any v
/-- A row of the call's own: its version, element type, cells an element, elements; gr: its cells are plain values. -/
structure Row where
 ver : Nat
 E : TypeId
 z : Nat
 es : List (List Cel)
structure AS where
 tm : Nat → Val
 bx : Nat → Option (List Cel)
 rw : Nat → Option Row
/-- Boxes and rows that are handed over, by key. -/
structure Hp where
 bs : List (Nat × List Cel)
 rs : List (Nat × Row)
def upd {α : Type} (f : Nat → α) (k : Nat) (v : α) : Nat → α := fun j => if j = k then v else f j
def tabV : List (Nat × Val) → Nat → Val
 | [], _ => .any
 | (k, v) :: l, n => if n = k then v else tabV l n
def tabO {α : Type} : List (Nat × α) → Nat → Option α
 | [], _ => none
 | (k, v) :: l, n => if n = k then some v else tabO l n
/-- Plain cells' values. -/
def gvs : List Cel → Option (List Value)
 | [] => some []
 | .g v :: cs => (gvs cs).map (v :: ·)
 | _ => none
/-- A value as a map's one cell; and back. -/
def mcel (kc : Nat) : Val → Option Cel
 | .one c => if kc < 16 then some c else none
 | .ag cs => if kc < 16 then none else (gvs cs).map fun vs => .g (.iface 0 (.agg vs.toArray))
 | _ => none
def decA : Cel → Val
 | .g (.iface _ (.agg cs)) => .ag (cs.toList.map .g)
 | _ => .any
def decV (kc : Nat) (c : Cel) : Val := if kc < 16 then .one c else decA c
/-- A string's bytes, as a slice's elements. -/
def strE (b : ByteArray) : List (List Cel) := b.data.toList.map fun x => [.g (.int .u8 (x.toNat : Int))]
def strV : Val → Val
 | .one (.g (.string b)) => .one (.sl true 1 (strE b))
 | _ => .any
/-- Bytes that are known, as a string. -/
def byteC : List Cel → Option UInt8
 | [.g (.int .u8 n)] => if 0 ≤ n ∧ n ≤ 255 then some (UInt8.ofNat n.toNat) else none
 | _ => none
def bytesC : List (List Cel) → Option (List UInt8)
 | [] => some []
 | e :: es => match byteC e, bytesC es with
  | some b, some l => some (b :: l)
  | _, _ => none
def strS : Val → Val
 | .one (.sl _ 1 (e :: es)) => match bytesC (e :: es) with
  | some l => .one (.g (.string ⟨l.toArray⟩))
  | none => .any
 | _ => .any
inductive Opd where
 | b (n : Nat)
 | s (n : Nat)
 | t (n : Nat)
 | v (x : Value)
 | f (n : FuncId)
/-- Data: what may lie in a row. -/
def Cel.isD : Cel → Bool
 | .g _ => true
 | .sl _ _ _ => true
 | .fm _ _ => true
 | .ep _ => true
 | .any => true
 | _ => false
/-- Nothing but values and memory that the callee has made is in this cell. -/
def freshC (c : Cel) : Bool := match c with | .g _ | .sl true _ _ | .any => true | _ => false
/-- All cells of elements are fresh. -/
def frE (es : List (List Cel)) : Bool := es.all fun e => e.all freshC
/-- Keys from here on: rows and boxes that were handed over. -/
def XK : Nat := 1000000
def ofV : Value → Val
 | .agg cs => .ag (cs.toList.map .g)
 | v => .one (.g v)
def AS.ev (s : AS) : Opd → Val
 | .t n => s.tm n
 | .v x => ofV x
 | .f n => .one (.fn n [])
 | .b n => strV (s.tm n)
 | .s n => strS (s.tm n)
def AS.put (s : AS) (d : Option Nat) (v : Val) : AS :=
 match d with
 | some d => { s with tm := upd s.tm d v }
 | none => s
/-- A cell as plain data. -/
def AS.dataV (s : AS) : Cel → Cel
 | .g v => .g v
 | .sl _ z es => .sl false z es
 | .fm kc es => .fm kc es
 | .ep cs => .ep cs
 | .mp k => match s.rw k with
  | some r => .fm r.E r.es
  | none => .any
 | .ow k ver => match s.rw k with
  | some r => if ver = r.ver then .sl false r.z r.es else .any
  | none => .any
 | .fn f [] => .g (.func (.func f) #[] #[])
 | _ => .any
/-- What can be handed to a callee that only reads. -/
def AS.viewC0 (s : AS) : Cel → Cel
 | .sl _ z es => .sl false z es
 | .ow k ver => match s.rw k with
  | some r => if ver = r.ver then .sl false r.z r.es else .any
  | none => .any
 | .bx k off => match s.bx k with
  | some cs => .ep ((cs.drop off).map s.dataV)
  | none => .any
 | .op k ver i off => match s.rw k with
  | some r => if ver = r.ver then (match r.es[i]? with | some e => .ep (e.drop off) | none => .any) else .any
  | none => .any
 | .fn _ _ => .any
 | .mv _ _ => .any
 | .os _ _ _ => .any
 | .ws k ver lo hi => match s.rw k with
  | some r => if ver = r.ver then .sl false r.z ((r.es.take hi).drop lo) else .any
  | none => .any
 | .mp k => match s.rw k with
  | some r => .fm r.E r.es
  | none => .any
 | c => c
def AS.viewC (s : AS) : Cel → Cel
 | .fn f caps => .fn f (caps.map s.viewC0)
 | c => s.viewC0 c
def AS.view (s : AS) : Val → Val
 | .one c => .one (s.viewC c)
 | .ag cs => .ag (cs.map s.viewC)
 | _ => .any
/-- A cell of a box that nobody writes any more. -/
def frzC : Cel → Cel
 | .g v => .g v
 | .sl fr z es => .sl fr z es
 | .fm kc es => .fm kc es
 | .ep cs => .ep cs
 | _ => .any
/-- What is handed back. -/
def AS.finC (s : AS) : Cel → Cel
 | .ow k ver => match s.rw k with
  | some r => if ver = r.ver then (if k < XK then .sl (frE r.es) r.z r.es else .any) else .any
  | none => .any
 | .bx k off => match s.bx k with
  | some cs => if k ≠ 0 ∧ k < XK then .ep ((cs.drop off).map frzC) else .any
  | none => .any
 | .op _ _ _ _ => .any
 | .fn _ _ => .any
 | .mv _ _ => .any
 | .os _ _ _ => .any
 | .ws _ _ _ _ => .any
 | .mp k => match s.rw k with
  | some r => if k < XK then .fm r.E r.es else .any
  | none => .any
 | c => c
def AS.fin (s : AS) : Val → Val
 | .one c => .one (s.finC c)
 | .ag cs => .ag (cs.map s.finC)
 | _ => .any
/-- A cell that came out of memory that nobody writes. -/
def Cel.dat : Cel → Cel
 | .sl _ z es => .sl false z es
 | c => c
/-- A cell of memory that the call has made. -/
def Cel.tof : Cel → Cel
 | .sl _ z es => .sl true z es
 | c => c
def datE (es : List (List Cel)) : List (List Cel) := es.map (List.map Cel.dat)
def tofE (es : List (List Cel)) : List (List Cel) := es.map (List.map Cel.tof)
/-- A row that is laid in a row is moved out: nobody turns it any more. -/
def mvF (k : Nat) (r : Row) : Cel → Cel
 | .ow j v => if j = k ∧ v = r.ver then .sl (frE r.es) r.z r.es else .ow j v
 | c => c
def owK : List Cel → Option Nat
 | [] => none
 | .ow k _ :: _ => some k
 | _ :: l => owK l
def AS.mvR (s : AS) (cs : List Cel) : Option (Nat × Row) :=
 match owK cs with
 | some k => (match s.rw k with
  | some r => if 0 < r.z ∧ k < XK then some (k, r) else none
  | none => none)
 | none => none
def AS.mvS (s : AS) (k : Nat) (r : Row) : AS := { s with rw := upd s.rw k (some { r with ver := r.ver + 1, es := [] }) }
/-- What is appended: elements of z cells. -/
def AS.src (s : AS) (z : Nat) : Val → Option (List (List Cel))
 | .one (.sl fr z' es) => if z' = z then some (if fr then tofE es else datE es) else none
 | .one (.g (.slice none 0 _)) => some []
 | .one (.ow k ver) => match s.rw k with
  | some r => if ver = r.ver ∧ r.z = z then some r.es else none
  | none => none
 | _ => none
def vcells : Val → Option (List Cel)
 | .one c => some [c]
 | .ag cs => some cs
 | _ => none
/-- cs with new cells from off on. -/
def wr {α : Type} (cs : List α) (off : Nat) (news : List α) : List α := cs.take off ++ news ++ cs.drop (off + news.length)
inductive SRes where
 | ok (s : AS)
 | need (p : Prop) [d : Decidable p] (s : AS)
 | bad
/-- What is compared: integers of a kind, bools, strings; a slice, a pointer, an interface value with nil. -/
inductive KTy where
 | i (k : IntKind)
 | b
 | s
 | ns
 | np
 | ni
def eqK : KTy → Cel → Cel → Option Bool
 | .i k, .g (.int k1 a), .g (.int k2 b) => if k1 = k ∧ k2 = k then some (decide (a = b)) else none
 | .b, .g (.bool a), .g (.bool b) => some (decide (a = b))
 | .s, .g (.string a), .g (.string b) => some (a.toList == b.toList)
 | .ns, .sl _ _ (_ :: _), .g (.slice none _ _) => some false
 | .ns, .g (.slice none _ _), .g (.slice none _ _) => some true
 | .np, .bx _ _, .g (.pointer none) => some false
 | .np, .ep _, .g (.pointer none) => some false
 | .np, .g (.pointer none), .g (.pointer none) => some true
 | .ni, .g .nilIface, .g .nilIface => some true
 | .ni, .g (.iface _ _), .g .nilIface => some false
 | _, _, _ => none
def eqL : List KTy → List Cel → List Cel → Option Bool
 | [], [], [] => some true
 | k :: ks, c :: cs, d :: ds => match eqK k c d, eqL ks cs ds with
  | some a, some b => some (a && b)
  | _, _ => none
 | _, _, _ => none
def eqV (agg : Bool) (ks : List KTy) : Val → Val → Option Bool
 | .ag cs, .ag ds => if agg then eqL ks cs ds else none
 | .one c, .one d => if agg then none else eqL ks [c] [d]
 | _, _ => none
/-- What a call is handed: the keys of boxes and rows; their keys behind the call, those that are new among them. -/
structure CAnn where
 bks : List Nat
 rks : List Nat
 obs : List Nat
 ors : List Nat
 sts : List Nat
def keyEq : Value → Value → Bool
 | .int _ a, .int _ b => a == b
 | .string a, .string b => a == b
 | _, _ => false
def mkey (k : Value) : List Cel → Bool
 | .g k' :: _ => keyEq k k'
 | _ => false
/-- A map's entry. -/
def mget (k : Value) : List (List Cel) → Option Cel
 | [] => none
 | e :: es => if mkey k e then e[1]? else mget k es
def mput (k : Value) (c : Cel) : List (List Cel) → List (List Cel)
 | [] => [[.g k, c]]
 | e :: es => if mkey k e then [.g k, c] :: es else e :: mput k c es
def mdel (k : Value) : List (List Cel) → List (List Cel)
 | [] => []
 | e :: es => if mkey k e then es else e :: mdel k es
/-- An entry of a map that nobody writes any more. -/
def mgetF (k : Value) : List (List Cel) → Option Cel
 | [] => none
 | e :: es => if mkey k e then (e[1]?).map Cel.dat else mgetF k es
/-- What a map has for a key that is not there; z: the cells of an element, where it is a slice. -/
def zeroC (z : Nat) : Value → Cel
 | .slice none 0 0 => if z = 0 then .g (.slice none 0 0) else .sl false z []
 | v => .g v
inductive Ins where
 | mv (x : Opd)
 | pick (c a b : Opd)
 | alloc (zero : List Value)
 | bld (zero : List Value)
 | box (x : Opd)
 | build (zero : List Value) (parts : List (Nat × Nat × Opd))
 | bslice (z len : Nat) (parts : List Opd)
 | load (agg : Bool) (n : Nat) (x : Opd)
 | store (n : Nat) (x v : Opd)
 | nilchk (x : Opd)
 | bin (op : BinOp) (x y : Opd)
 | eqs (neg agg : Bool) (ks : List KTy) (x y : Opd)
 | un (op : UnOp) (x : Opd)
 | conv (k : IntKind) (x : Opd)
 | chr (x : Opd)
 | mkfn (f : FuncId) (caps : List Opd)
 | slc (z : Nat) (x : Opd) (lo hi : Option Opd)
 | fadr (off : Nat) (x : Opd)
 | fld (off : Nat) (agg : Bool) (n : Nat) (x : Opd)
 | iadr (z : Nat) (x i : Opd)
 | idx (x i : Opd)
 | extr (x : Opd) (i : Nat)
 | len (x : Opd)
 | slen (x : Opd)
 | mnx (mx : Bool) (x y : Opd)
 | append (E : TypeId) (z bytes : Nat) (x y : Opd)
 | call (f : Opd) (args : List Opd)
 | callx (f : Opd) (args : List Opd)
 | chk (x : Opd) (key : Option Nat)
 | callm (f : Opd) (args : List Opd) (m : CAnn)
 | sfx (z : Nat) (x lo : Opd)
 | trn (z : Nat) (x hi : Opd)
 | clr (E : TypeId) (z : Nat) (zero : List Value) (x : Opd)
 | mkr (E : TypeId) (z bytes : Nat) (zero : List Value) (n c : Opd)
 | bslr (E : TypeId) (z len : Nat) (parts : List Opd)
 | mkm (kc : Nat)
 | mup (kc : Nat) (x k v : Opd)
 | mlk (kc : Nat) (zero : Value) (ok : Bool) (z : Nat) (x k : Opd)
 | mdl (kc : Nat) (x k : Opd)
 | aadr (n z : Nat) (x i : Opd)
 | ssub (x : Opd) (lo hi : Option Opd)
abbrev iv (n : Int) : Val := .one (.g (.int .i64 n))
abbrev bv (b : Bool) : Val := .one (.g (.bool b))
abbrev ki (k : IntKind) (n : Int) : Val := .one (.g (.int k n))
abbrev sv (b : ByteArray) : Val := .one (.g (.string b))
def binS (s : AS) (d : Option Nat) (op : BinOp) : Val → Val → SRes
 | .one (.g (.int k a)), .one (.g (.int k' b)) => match op with
  | .add => if k = k' then .ok (s.put d (ki k (k.wrap (a + b)))) else .bad
  | .sub => if k = k' then .ok (s.put d (ki k (k.wrap (a - b)))) else .bad
  | .mul => if k = k' then .ok (s.put d (ki k (k.wrap (a * b)))) else .bad
  | .quo => if k = k' then .need (b ≠ 0) (s.put d (ki k (k.wrap (a.tdiv b)))) else .bad
  | .rem => if k = k' then .need (b ≠ 0) (s.put d (ki k (a.tmod b))) else .bad
  | .eql => if k = k' then .ok (s.put d (bv (a == b))) else .bad
  | .neq => if k = k' then .ok (s.put d (bv (a != b))) else .bad
  | .lss => if k = k' then .ok (s.put d (bv (decide (a < b)))) else .bad
  | .leq => if k = k' then .ok (s.put d (bv (decide (a ≤ b)))) else .bad
  | .gtr => if k = k' then .ok (s.put d (bv (decide (a > b)))) else .bad
  | .geq => if k = k' then .ok (s.put d (bv (decide (a ≥ b)))) else .bad
  | .and => if k = k' then .ok (s.put d (ki k (bits .and k a b))) else .bad
  | .or => if k = k' then .ok (s.put d (ki k (bits .or k a b))) else .bad
  | .xor => if k = k' then .ok (s.put d (ki k (bits .xor k a b))) else .bad
  | .shr => .need (0 ≤ b) (s.put d (ki k (a.fdiv (2 ^ (min b.toNat k.bits)))))
  | .shl => .need (0 ≤ b) (s.put d (ki k (k.wrap (a * 2 ^ (min b.toNat k.bits)))))
  | _ => .bad
 | .one (.g (.string a)), .one (.g (.string b)) => match op with
  | .add => .need (((a.size + b.size : Nat) : Int) ≤ 9223372036854775807) (s.put d (sv (a ++ b)))
  | .eql => .ok (s.put d (bv (a.toList == b.toList)))
  | .neq => .ok (s.put d (bv (!(a.toList == b.toList))))
  | .lss => .ok (s.put d (bv (Op.bytesLess a.toList b.toList)))
  | .leq => .ok (s.put d (bv (Op.bytesLess a.toList b.toList || a.toList == b.toList)))
  | .gtr => .ok (s.put d (bv (!(Op.bytesLess a.toList b.toList || a.toList == b.toList))))
  | .geq => .ok (s.put d (bv (!Op.bytesLess a.toList b.toList)))
  | _ => .bad
 | _, _ => .bad
def loadS (s : AS) (d : Option Nat) (agg : Bool) (n : Nat) (cs : List Cel) : SRes :=
 if agg then .need (n ≤ cs.length) (s.put d (.ag (cs.take n))) else match cs with
  | c :: _ => .ok (s.put d (.one c))
  | [] => .bad
/-- Cells that may be laid into memory that is not looked at as a box: plain data. -/
def dataC : Cel → Bool
 | .g _ => true
 | _ => false
/-- The limit of an operation whose address lies in a row. -/
abbrev RWK : Nat := 999999999
/-- A function value; from a million on: a method value. -/
def fnC (f : FuncId) (cs : List Cel) : Cel := if f < 1000000 then .fn f cs else .mv (f - 1000000) cs
def stRow (s : AS) (d : Option Nat) (n k ver i off : Nat) (news : List Cel) (r : Row) : SRes :=
 if ver = r.ver && news.length = n && news.all Cel.isD then (match r.es[i]? with
  | some e => .need (off + n ≤ e.length) ({ s with rw := upd s.rw k (some { r with es := r.es.set i (wr e off news) }) }.put d .any)
  | none => .bad) else .bad
def bslRow (s : AS) (k : Nat) (E : TypeId) (z len n : Nat) (es : List (List Cel)) : SRes :=
 if es.all (fun e => e.length = z && e.all Cel.isD) && n = len && decide (k < XK) && decide (0 < z) then .ok { s with tm := upd s.tm k (.one (.ow k 0)), rw := upd s.rw k (some ⟨0, E, z, es⟩) } else .bad
def estep (d : Option Nat) : Ins → AS → SRes
 | .mv x, s => .ok (s.put d (s.ev x))
 | .alloc zero, s => match d with
  | some k => match s.bx k with
   | none => if k = 0 then .bad else .ok { s with tm := upd s.tm k (.one (.bx k 0)), bx := upd s.bx k (some (zero.map .g)) }
   | some _ => .bad
  | none => .bad
 | .bld zero, s => match d with
  | some k => match s.bx (900000 + k) with
   | none => if k < 100000 then .ok { s with tm := upd s.tm k (.one (.bx (900000 + k) 0)), bx := upd s.bx (900000 + k) (some (zero.map .g)) } else .bad
   | some _ => .bad
  | none => .bad
 | .box x, s => match d, vcells (s.ev x) with
  | some k, some cs => match s.bx k with
   | none => if k = 0 then .bad else .ok { s with tm := upd s.tm k (.one (.bx k 0)), bx := upd s.bx k (some cs) }
   | some _ => .bad
  | _, _ => .bad
 | .build zero parts, s => match parts.foldl (fun acc p => match acc, vcells (s.ev p.2.2) with
   | some cs, some news => if news.length = p.2.1 ∧ p.1 + p.2.1 ≤ cs.length then some (wr cs p.1 news) else none
   | _, _ => none) (some (zero.map .g)) with
  | some cs => .ok (s.put d (.ag cs))
  | none => .bad
 | .bslice z len parts, s => match parts.mapM (fun p => vcells (s.ev p)) with
  | some es => if es.all (fun e => e.length = z && e.all Cel.isD) && parts.length = len then .ok (s.put d (.one (.sl (frE es) z es))) else .bad
  | none => .bad
 | .load agg n x, s => match s.ev x with
  | .one (.bx k off) => match s.bx k with
   | some cs => loadS s d agg n (cs.drop off)
   | none => .bad
  | .one (.ep cs) => loadS s d agg n (cs.map Cel.dat)
  | .one (.op k ver i off) => match s.rw k with
   | some r => if ver = r.ver then (match r.es[i]? with | some e => loadS s d agg n (e.drop off) | none => .bad) else .bad
   | none => .bad
  | _ => .bad
 | .store n x v, s => match s.ev x, vcells (s.ev v) with
  | .one (.bx k off), some news => match s.bx k with
   | some cs => if news.length = n then .need (off + n ≤ cs.length) ({ s with bx := upd s.bx k (some (wr cs off news)) }.put d .any) else .bad
   | none => .bad
  | .one (.op k ver i off), some news => match s.rw k with
   | some r => if ver = r.ver && news.length = n && news.all Cel.isD then (match r.es[i]? with
     | some e => .need (off + n ≤ e.length) ({ s with rw := upd s.rw k (some { r with es := r.es.set i (wr e off news) }) }.put d .any)
     | none => .bad) else (match s.mvR news with
      | some (j, q) => if j ≠ k then stRow (s.mvS j q) d n k ver i off (news.map (mvF j q)) r else .bad
      | none => .bad)
   | none => .bad
  | _, _ => .bad
 | .nilchk x, s => match s.ev x with
  | .one (.bx k off) => .ok (s.put d (.one (.bx k off)))
  | .one (.ep cs) => .ok (s.put d (.one (.ep cs)))
  | .one (.op k ver i off) => match s.rw k with
   | some r => if ver = r.ver then .ok (s.put d (.one (.op k ver i off))) else .bad
   | none => .bad
  | _ => .bad
 | .bin op x y, s => binS s d op (s.ev x) (s.ev y)
 | .un op x, s => match op, s.ev x with
  | .not, .one (.g (.bool b)) => .ok (s.put d (bv (!b)))
  | .neg, .one (.g (.int k a)) => .ok (s.put d (ki k (k.wrap (0 - a))))
  | _, _ => .bad
 | .chr x, s => match s.ev x with
  | .one (.g (.int _ n)) => .ok (s.put d (sv (Utf8.encode n)))
  | _ => .bad
 | .conv k x, s => match s.ev x with
  | .one (.g (.int _ a)) => .ok (s.put d (ki k (k.wrap a)))
  | _ => .bad
 | .mkfn f caps, s => match caps.mapM (fun p => match s.ev p with | .one (.bx k off) => some (Cel.bx k off) | .one (.g v) => some (Cel.g v) | .one (.ep cs) => some (Cel.ep cs) | _ => none) with
  | some cs => .ok (s.put d (.one (fnC f cs)))
  | none => .bad
 | .slc z x lo hi, s => match s.ev x, lo.map s.ev, hi.map s.ev with
  | .one (.sl fr z' es), none, none => if z = z' then .ok (s.put d (.one (.sl fr z es))) else .bad
  | .one (.sl fr z' es), some (.one (.g (.int _ l))), none => if z = z' then .need (0 ≤ l ∧ l ≤ es.length) (s.put d (.one (.sl fr z (es.drop l.toNat)))) else .bad
  | .one (.sl fr z' es), none, some (.one (.g (.int _ h))) => if z = z' then .need (0 ≤ h ∧ h ≤ es.length) (s.put d (.one (.sl fr z (es.take h.toNat)))) else .bad
  | .one (.sl fr z' es), some (.one (.g (.int _ l))), some (.one (.g (.int _ h))) => if z = z' then .need (0 ≤ l ∧ l ≤ h ∧ h ≤ es.length) (s.put d (.one (.sl fr z ((es.take h.toNat).drop l.toNat)))) else .bad
  | .one (.ow k ver), some (.one (.g (.int _ l))), some (.one (.g (.int _ h))) => match s.rw k with
   | some r => if ver = r.ver ∧ z = r.z then .need (0 ≤ l ∧ l ≤ h ∧ h ≤ r.es.length ∧ 0 < r.es.length) (s.put d (.one (.ws k ver l.toNat h.toNat))) else .bad
   | none => .bad
  | _, _, _ => .bad
 | .fadr off x, s => match s.ev x with
  | .one (.bx k o) => .ok (s.put d (.one (.bx k (o + off))))
  | .one (.ep cs) => .ok (s.put d (.one (.ep (cs.drop off))))
  | .one (.op k ver i o) => match s.rw k with
   | some r => if ver = r.ver then .ok (s.put d (.one (.op k ver i (o + off)))) else .bad
   | none => .bad
  | _ => .bad
 | .fld off agg n x, s => match s.ev x with
  | .ag cs => if agg then .need (off + n ≤ cs.length) (s.put d (.ag ((cs.drop off).take n))) else (match cs[off]? with | some c => .ok (s.put d (.one c)) | none => .bad)
  | _ => .bad
 | .iadr z x i, s => match s.ev x, s.ev i with
  | .one (.sl _ z' es), .one (.g (.int _ n)) => if z = z' then .need (0 ≤ n ∧ n < es.length) (s.put d (.one (.ep (es.getD n.toNat [])))) else .bad
  | .one (.ow k ver), .one (.g (.int _ n)) => match s.rw k with
   | some r => if ver = r.ver ∧ z = r.z then .need (0 ≤ n ∧ n < r.es.length) (s.put d (.one (.op k ver n.toNat 0))) else .bad
   | none => .bad
  | .one (.os k ver lo), .one (.g (.int _ n)) => match s.rw k with
   | some r => if ver = r.ver ∧ z = r.z then .need (0 ≤ n ∧ lo + n < r.es.length) (s.put d (.one (.op k ver (lo + n.toNat) 0))) else .bad
   | none => .bad
  | _, _ => .bad
 | .idx x i, s => match s.ev x, s.ev i with
  | .one (.g (.string b)), .one (.g (.int _ n)) => .need (0 ≤ n ∧ n < b.size) (s.put d (ki .u8 ((b.data.toList.getD n.toNat 0).toNat)))
  | _, _ => .bad
 | .extr x i, s => match s.ev x with
  | .tu vs => match vs[i]? with
   | some v => .ok (s.put d v)
   | none => .bad
  | _ => .bad
 | .len x, s => match s.ev x with
  | .one (.sl _ _ es) => .ok (s.put d (iv es.length))
  | .one (.g (.slice _ n _)) => .ok (s.put d (iv n))
  | .one (.ow k ver) => match s.rw k with
   | some r => if ver = r.ver then .ok (s.put d (iv r.es.length)) else .bad
   | none => .bad
  | .one (.os k ver lo) => match s.rw k with
   | some r => if ver = r.ver then .ok (s.put d (iv (r.es.length - lo))) else .bad
   | none => .bad
  | _ => .bad
 | .slen x, s => match s.ev x with
  | .one (.g (.string b)) => .ok (s.put d (iv b.size))
  | _ => .bad
 | .mnx mx x y, s => match s.ev x, s.ev y with
  | .one (.g (.int k a)), .one (.g (.int _ b)) => .ok (s.put d (ki k (if mx then (if b > a then b else a) else (if b < a then b else a))))
  | _, _ => .bad
 | .append E z bytes x y, s => match s.ev x, s.src z (s.ev y) with
  | .one (.ow k ver), some es => match s.rw k with
   | some r => if ver = r.ver ∧ E = r.E ∧ z = r.z then
     .need ((r.es.length + es.length) * bytes ≤ 140737488355328 ∧ r.es.length + es.length ≤ 9223372036854775807)
      ({ s with rw := upd s.rw k (some { r with ver := r.ver + 1, es := r.es ++ es }) }.put d (.one (.ow k (r.ver + 1)))) else .bad
   | none => .bad
  | _, _ => .bad
 | .eqs neg agg ks x y, s => match eqV agg ks (s.ev x) (s.ev y) with
  | some b => .ok (s.put d (bv (if neg then !b else b)))
  | none => .bad
 | .pick _ _ _, _ => .bad
 | .call _ _, _ => .bad
 | .callx _ _, _ => .bad
 | .callm _ _ _, _ => .bad
 | .sfx z x lo, s => match s.ev x, s.ev lo with
  | .one (.ow k ver), .one (.g (.int _ l)) => match s.rw k with
   | some r => if ver = r.ver ∧ z = r.z then .need (0 ≤ l ∧ l ≤ r.es.length ∧ 0 < r.es.length) (s.put d (.one (.os k ver l.toNat))) else .bad
   | none => .bad
  | _, _ => .bad
 | .trn z x hi, s => match s.ev x, s.ev hi with
  | .one (.ow k ver), .one (.g (.int _ h)) => match s.rw k with
   | some r => if ver = r.ver ∧ z = r.z then .need (0 ≤ h ∧ h ≤ r.es.length ∧ 0 < r.es.length) ({ s with rw := upd s.rw k (some { r with ver := r.ver + 1, es := r.es.take h.toNat }) }.put d (.one (.ow k (r.ver + 1)))) else .bad
   | none => .bad
  | _, _ => .bad
 | .clr E z zero x, s => match s.ev x with
  | .one (.os k ver lo) => match s.rw k with
   | some r => if ver = r.ver ∧ E = r.E ∧ z = r.z ∧ zero.length = z then .ok ({ s with rw := upd s.rw k (some { r with es := r.es.take lo ++ List.replicate (r.es.length - lo) (zero.map Cel.g) }) }.put d .any) else .bad
   | none => .bad
  | _ => .bad
 | .mkr E z bytes zero n c, s => match d, s.ev n, s.ev c with
  | some k, .one (.g (.int _ m)), .one (.g (.int _ m')) => match s.rw k with
   | none => if k < XK ∧ 0 < z ∧ zero.length = z then .need (0 ≤ m ∧ m' = m ∧ m * bytes ≤ 281474976710656 ∧ m ≤ 9223372036854775807) { s with tm := upd s.tm k (.one (.ow k 0)), rw := upd s.rw k (some ⟨0, E, z, List.replicate m.toNat (zero.map Cel.g)⟩) } else .bad
   | some _ => .bad
  | _, _, _ => .bad
 | .bslr E z len parts, s => match d, parts.mapM (fun p => vcells (s.ev p)) with
  | some k, some es => match s.rw k with
   | none => if es.all (fun e => e.length = z && e.all Cel.isD) && parts.length = len && decide (k < XK) && decide (0 < z) then .ok { s with tm := upd s.tm k (.one (.ow k 0)), rw := upd s.rw k (some ⟨0, E, z, es⟩) } else (match s.mvR es.flatten with
    | some (j, q) => if j ≠ k then bslRow (s.mvS j q) k E z len parts.length (es.map (List.map (mvF j q))) else .bad
    | none => .bad)
   | some _ => .bad
  | _, _ => .bad
 | .mkm kc, s => match d with
  | some k => match s.rw k with
   | none => if k < XK then .ok { s with tm := upd s.tm k (.one (.mp k)), rw := upd s.rw k (some ⟨0, kc, 0, []⟩) } else .bad
   | some _ => .bad
  | none => .bad
 | .mup kc x kx vx, s => match s.ev x, s.ev kx, mcel kc (s.ev vx) with
  | .one (.mp k), .one (.g kv), some c => match s.rw k with
   | some r => if r.z = 0 ∧ r.E = kc ∧ keyOk kc kv = true ∧ c.isD = true then .ok ({ s with rw := upd s.rw k (some { r with es := mput kv c r.es }) }.put d .any) else .bad
   | none => .bad
  | _, _, _ => .bad
 | .mdl kc x kx, s => match s.ev x, s.ev kx with
  | .one (.mp k), .one (.g kv) => match s.rw k with
   | some r => if r.z = 0 ∧ r.E = kc ∧ keyOk kc kv = true then .ok ({ s with rw := upd s.rw k (some { r with es := mdel kv r.es }) }.put d .any) else .bad
   | none => .bad
  | _, _ => .bad
 | .mlk kc zero ok z x kx, s => match s.ev x, s.ev kx with
  | .one (.mp k), .one (.g kv) => match s.rw k with
   | some r => if r.z = 0 ∧ r.E = kc ∧ keyOk kc kv = true then .ok (s.put d (if ok then .tu [decV kc ((mget kv r.es).getD (.g zero)), bv (mget kv r.es).isSome] else decV kc ((mget kv r.es).getD (.g zero)))) else .bad
   | none => .bad
  | .one (.fm kc' es), .one (.g kv) => if kc' = kc ∧ keyOk kc kv = true then .ok (s.put d (if ok then .tu [decV kc ((mgetF kv es).getD (zeroC z zero)), bv (mgetF kv es).isSome] else decV kc ((mgetF kv es).getD (zeroC z zero)))) else .bad
  | _, _ => .bad
 | .aadr n z x i, s => match s.ev x, s.ev i with
  | .one (.bx k o), .one (.g (.int _ m)) => .need (0 ≤ m ∧ m < n) (s.put d (.one (.bx k (o + m.toNat * z))))
  | .one (.ep cs), .one (.g (.int _ m)) => .need (0 ≤ m ∧ m < n) (s.put d (.one (.ep (cs.drop (m.toNat * z)))))
  | _, _ => .bad
 | .ssub x lo hi, s => match s.ev x, lo.map s.ev, hi.map s.ev with
  | .one (.g (.string b)), none, none => .ok (s.put d (sv b))
  | .one (.g (.string b)), some (.one (.g (.int _ l))), none => .need (0 ≤ l ∧ l ≤ b.size) (s.put d (sv (b.extract l.toNat b.size)))
  | .one (.g (.string b)), none, some (.one (.g (.int _ h))) => .need (0 ≤ h ∧ h ≤ b.size) (s.put d (sv (b.extract 0 h.toNat)))
  | .one (.g (.string b)), some (.one (.g (.int _ l))), some (.one (.g (.int _ h))) => .need (0 ≤ l ∧ l ≤ h ∧ h ≤ b.size) (s.put d (sv (b.extract l.toNat h.toNat)))
  | _, _, _ => .bad
 | .chk x none, s => match s.ev x with
  | .one (.mp _) => .bad
  | .one (.os _ _ _) => .bad
  | .one (.ws _ _ _ _) => .bad
  | .one (.bx _ _) => .bad
  | .one (.ow _ _) => .bad
  | .one (.op _ _ _ _) => .bad
  | _ => .ok (s.put d .any)
 | .chk x (some k), s => match s.ev x with
  | .one (.bx j _) => if j = k then .ok (s.put d .any) else .bad
  | .one (.op _ _ _ _) => if k = RWK then .ok (s.put d .any) else .bad
  | _ => .bad
structure GI where
 dst : Option Nat
 gd : Option (Nat × Bool)
 ins : Ins
abbrev gM (d n : Nat) : GI := ⟨some d, none, .mv (.t n)⟩
abbrev gI (d : Nat) (i : Ins) : GI := ⟨some d, none, i⟩
abbrev gN (i : Ins) : GI := ⟨none, none, i⟩
abbrev gG (d g : Nat) (b : Bool) (i : Ins) : GI := ⟨some d, some (g, b), i⟩
abbrev oI (n : Int) : Opd := .v (.int .i64 n)
/-- Which slots, boxes and rows stay behind a region; none: all. -/
structure Keep where
 ts : List Nat
 bs : List Nat
 rs : List Nat
abbrev kP (ts bs rs : List Nat) : Option Keep := some ⟨ts, bs, rs⟩
/-- The version of a row that is kept: rows that were handed over tell whether they are where they were. -/
def kv (k v : Nat) : Nat := if k < XK then 0 else min v 1
/-- Versions are told no more. -/
def kz (_ _ : Nat) : Nat := 0
/-- What stays, and with which versions. -/
structure Kp where
 ts : List Nat
 bs : List Nat
 rs : List Nat
 q : Nat → Nat → Nat
def Keep.at (K : Keep) (q : Nat → Nat → Nat) : Kp := ⟨K.ts, K.bs, K.rs, q⟩
/-- A row that is not kept as one becomes data. -/
def AS.renC (s : AS) (K : Kp) : Cel → Cel
 | .bx k off => if k ∈ K.bs then .bx k off else (match s.bx k with
  | some cs => if k ≠ 0 ∧ k < XK then .ep ((cs.drop off).map frzC) else .any
  | none => .any)
 | .ow k ver => match s.rw k with
  | some r => if ver = r.ver then (if k ∈ K.rs then .ow k (K.q k ver) else if k < XK then .sl (frE r.es) r.z r.es else .any) else .any
  | none => .any
 | .op k ver i off => if k ∈ K.rs then (match s.rw k with | some r => if ver = r.ver then .op k (K.q k ver) i off else .any | none => .any) else .any
 | .fn f caps => if caps.all (fun c => match c with | .bx k _ => k ∈ K.bs | .g _ => true | .ep _ => true | _ => false) then .fn f caps else .any
 | .mv f caps => if caps.all (fun c => match c with | .bx k _ => k ∈ K.bs | .g _ => true | .ep _ => true | _ => false) then .mv f caps else .any
 | .os k ver lo => if k ∈ K.rs then (match s.rw k with | some r => if ver = r.ver then .os k (K.q k ver) lo else .any | none => .any) else .any
 | .ws _ _ _ _ => .any
 | .mp k => if k ∈ K.rs then .mp k else (match s.rw k with
  | some r => if k < XK then .fm r.E r.es else .any
  | none => .any)
 | c => c
def AS.ren (s : AS) (K : Kp) : Val → Val
 | .one c => .one (s.renC K c)
 | .ag cs => .ag (cs.map (s.renC K))
 | .tu _ => .any
 | .any => .any
def AS.keepK (s : AS) (K : Kp) : AS :=
 { tm := tabV (K.ts.map fun t => (t, s.ren K (s.tm t))), bx := tabO ((K.bs.filterMap fun k => (s.bx k).map fun cs => (k, cs.map (s.renC K)))), rw := tabO ((K.rs.filterMap fun k => (s.rw k).map fun r => (k, { r with ver := K.q k r.ver }))) }
def AS.keep (s : AS) : Option Keep → AS
 | none => s
 | some K => s.keepK (K.at kv)
inductive AC where
 |skip
 | reg (dr : Bool) (l : List GI) (kp : Option Keep)
 | seq (a b : AC)
 | cond (c : Opd) (a b : AC)
 | block (id : Nat) (a : AC)
 | loop (a : AC)
 | exit (id : Nat)
 | ret
 | own (slot : Nat) (E : TypeId) (z : Nat)
 | ownb (key off rk : Nat) (E : TypeId) (z : Nat)
 | ty (slot z : Nat)
/-- A nil slice, as one of elements of z cells. -/
def tyV (z : Nat) : Val → Val
 | .one (.g (.slice none 0 _)) => .one (.sl true z [])
 | v => v
inductive RV where
 | t (n : Nat)
 | cell (n : Nat) (agg : Bool) (sz : Nat)
def AS.rv (s : AS) : RV → Option Val
 | .t n => some (s.fin (s.tm n))
 | .cell n agg sz => match s.tm n with
  | .one (.bx k off) => match s.bx k with
   | some cs => if agg then (if sz ≤ (cs.drop off).length then some (s.fin (.ag ((cs.drop off).take sz))) else none) else (match cs.drop off with | c :: _ => some (s.fin (.one c)) | [] => none)
   | none => none
  | _ => none
def AS.res (s : AS) (rs : List RV) : Option Val :=
 match rs.mapM s.rv with
 | some [v] => some v
 | some vs => some (.tu vs)
 | none => none
/-- Go's function f has a body of its own. -/
def hasBody (P : Program) (f : FuncId) : Prop := ∃ fn, P.funcs[f]? = some fn ∧ fn.body.isNone = false ∧ (fn.name == "runtime.NumGoroutine") = false
/-- What a program's text lays in variables that a call may read. -/
def LaidW (P : Program) (w : World) : Prop :=
 (∀ g, P.globalNamed "internal/strconv.uint64pow10" = some g → Lib.TabIs P w "internal/strconv.uint64pow10" .u64 ((List.range 20).map fun i => ((10 ^ i : Nat) : Int))) ∧
 (∀ g n, (n = "strconv.ErrSyntax" ∨ n = "strconv.ErrRange") → P.globalNamed n = some g → ∃ t p, w.var? P n = some #[.iface t p])
/-- It lies there, at blocks that are ok. -/
def TabB (P : Program) (w : World) (ok : Nat → Prop) : Prop := ∃ W : World, LaidW P W ∧ W.heap.size ≤ w.heap.size ∧ ∀ b, b < W.heap.size → ok b ∧ w.heap[b]? = W.heap[b]?
/-- A contract. ext: the cells of a box of the caller's, handed over as a pointer ahead of the other arguments; R: the box's cells behind the call, and the result. -/
def FC (P : Program) (f : FuncId) (ext : Option (List Cel)) (args : List Val) (R : List Cel → Val → Prop) : Prop :=
 hasBody P f ∧ ∀ (w : World) (okA : Nat → Prop) (g : Nat) (vs : List Value), TabB P w okA →
  (∀ cs, ext = some cs → ¬ okA g ∧ ∃ cur ty, w.heap[g]? = some (.cells cur ty (0, 0)) ∧ CsRel w okA w.heap.size Env.none cs cur.toList) →
  args.length = vs.length → (∀ (i : Nat) (x : Val) (u : Value), args[i]? = some x → vs[i]? = some u → VRel w okA w.heap.size Env.none x u) →
  Calls P f ((if ext.isSome then [Value.pointer (some ⟨g, 0, none⟩)] else []) ++ vs).toArray w fun e w' =>
   ∃ v cs' r, e = .returned v ∧ R cs' r ∧ w.grownBy w' (if ext.isSome then some g else none) ∧
    VRel w' (fun b => w.heap.size ≤ b ∨ okA b) w.heap.size Env.none r v ∧
    (ext.isSome = true → ∃ cur ty, w'.heap[g]? = some (.cells cur ty (0, 0)) ∧ CsRel w' (fun b => (w.heap.size ≤ b ∨ okA b) ∧ b ≠ g) w.heap.size Env.none cs' cur.toList)
end Go.Ai
namespace Go.Ai
open Go
set_option linter.unusedSimpArgs false
set_option linter.unusedVariables false
/-- w' is w on the blocks that are ok. -/
def Keeps (ok : Nat → Prop) (w w' : World) : Prop := w.heap.size ≤ w'.heap.size ∧ ∀ b, b < w.heap.size → ok b → w'.heap[b]? = w.heap[b]?
theorem Keeps.refl (ok : Nat → Prop) (w : World) : Keeps ok w w := ⟨Nat.le_refl _, fun _ _ _ => rfl⟩
theorem Keeps.cell {ok : Nat → Prop} {w w' : World} (h : Keeps ok w w') {b i : Nat} (hb : b < w.heap.size) (hok : ok b) : w'.cell? ⟨b, i, none⟩ = w.cell? ⟨b, i, none⟩ :=
 World.cell?_of_block (w := w) (h.2 b hb hok)
theorem Keeps.of_grown {ok : Nat → Prop} {w w' : World} (h : w.grownBy w' none) : Keeps ok w w' := ⟨h.size, fun b hb _ => h.block b hb (by simp)⟩
theorem DRel.keep {w w' : World} {ok ok' : Nat → Prop} {c : Cel} {v : Value} (h : DRel w ok c v) (hk : Keeps ok w w') (hok : ∀ b, b < w.heap.size → ok b → ok' b) : DRel w' ok' c v := by
 induction h with
 | g hv => exact .g hv
 | any hv => exact .any hv
 | nil => exact .nil
 | sl us hn hc hb hlt hz hcell _ ih =>
  exact .sl us hn hc (hok _ hlt hb) (Nat.lt_of_lt_of_le hlt hk.1) hz (fun i e j x he hx => (hk.cell hlt hb).trans (hcell i e j x he hx)) ih
 | fm cs hb hlt hh hn hks _ ih => exact .fm cs (hok _ hlt hb) (Nat.lt_of_lt_of_le hlt hk.1) ((hk.2 _ hlt hb).trans hh) hn hks ih
 | ep us hb hlt hc _ ih => exact .ep us (hok _ hlt hb) (Nat.lt_of_lt_of_le hlt hk.1) (fun j x hx => (hk.cell hlt hb).trans (hc j x hx)) ih
theorem DRel.one {w : World} {ok : Nat → Prop} {c : Cel} {v : Value} (h : DRel w ok c v) : v.oneCell' = true := by
 cases h with
 | g hv => exact hv
 | any hv => exact hv
 | nil => rfl
 | sl => rfl
 | fm => rfl
 | ep => rfl
structure EnvLe (E E' : Env) : Prop where
 gm : ∀ k g, E.gm k = some g → E'.gm k = some g
 rm : ∀ k ver z u, E.rm k = some (ver, z, u) → ∃ ver' u', E'.rm k = some (ver', z, u') ∧ ver ≤ ver' ∧ (ver = ver' ∨ z = 0 → u = u')
theorem EnvLe.refl (E : Env) : EnvLe E E := ⟨fun _ _ h => h, fun _ ver _ u h => ⟨ver, u, h, Nat.le_refl _, fun _ => rfl⟩⟩
section
variable {w w' : World} {ok ok' : Nat → Prop} {base base' : Nat} {E E' : Env}
theorem CRel0.move {c : Cel} {v : Value} (h : CRel0 w ok base E c v) (hk : Keeps ok w w') (hok : ∀ b, b < w.heap.size → ok b → ok' b) (hb : base' ≤ base) (hE : EnvLe E E') : CRel0 w' ok' base' E' c v := by
 cases c with
 | g u => exact h
 | sl fr z es =>
  cases fr with
  | false => exact DRel.keep h hk hok
  | true => exact DRel.keep (ok' := fun b => base' ≤ b ∧ ok' b) h ⟨hk.1, fun b hb ho => hk.2 b hb ho.2⟩ (fun b hlt ho => ⟨Nat.le_trans hb ho.1, hok b hlt ho.2⟩)
 | ep cs =>
  obtain ⟨b, off, us, rfl, ho, hlt, hc⟩ := h
  exact ⟨b, off, us, rfl, hok b hlt ho, Nat.lt_of_lt_of_le hlt hk.1, fun j x hx => ⟨(hk.cell hlt ho).trans (hc j x hx).1, (hc j x hx).2.keep hk hok⟩⟩
 | bx k off =>
  obtain ⟨g, hg, rfl⟩ := h
  exact ⟨g, hE.gm k g hg, rfl⟩
 | ow k ver =>
  obtain ⟨h1, ver', z, u, hr, hle, hv, hz⟩ := h
  obtain ⟨ver'', u', hr', hle', heq⟩ := hE.rm k ver' z u hr
  exact ⟨h1, ver'', z, u', hr', Nat.le_trans hle hle', fun he => by
   have h2 : ver' = ver'' := by omega
   rw [← heq (.inl h2)]; exact hv (by omega), hz⟩
 | op k ver i off =>
  obtain ⟨h1, ver', z, u, hr, hle, hv, hz⟩ := h
  obtain ⟨ver'', u', hr', hle', heq⟩ := hE.rm k ver' z u hr
  exact ⟨h1, ver'', z, u', hr', Nat.le_trans hle hle', fun he => by
   have h2 : ver' = ver'' := by omega
   rw [← heq (.inl h2)]; exact hv (by omega), hz⟩
 | os k ver lo =>
  obtain ⟨h1, ver', z, u, hr, hle, hv, hz⟩ := h
  obtain ⟨ver'', u', hr', hle', heq⟩ := hE.rm k ver' z u hr
  exact ⟨h1, ver'', z, u', hr', Nat.le_trans hle hle', fun he => by
   have h2 : ver' = ver'' := by omega
   rw [← heq (.inl h2)]; exact hv (by omega), hz⟩
 | ws k ver lo hi =>
  obtain ⟨h1, ver', z, u, hr, hle, hv, hz⟩ := h
  obtain ⟨ver'', u', hr', hle', heq⟩ := hE.rm k ver' z u hr
  exact ⟨h1, ver'', z, u', hr', Nat.le_trans hle hle', fun he => by
   have h2 : ver' = ver'' := by omega
   rw [← heq (.inl h2)]; exact hv (by omega), hz⟩
 | mp k =>
  obtain ⟨h1, ver', u, hr, hv⟩ := h
  obtain ⟨ver'', u', hr', _, heq⟩ := hE.rm k ver' 0 u hr
  exact ⟨h1, ver'', u', hr', by rw [← heq (.inr rfl)]; exact hv⟩
 | fm kc es => exact DRel.keep h hk hok
 | fn f caps => exact h
 | mv f caps => exact h
 | any => exact h
theorem CRel.move {c : Cel} {v : Value} (h : CRel w ok base E c v) (hk : Keeps ok w w') (hok : ∀ b, b < w.heap.size → ok b → ok' b) (hb : base' ≤ base) (hE : EnvLe E E') : CRel w' ok' base' E' c v := by
 cases c with
 | fn f caps =>
  obtain ⟨us, rfl, hl, hc⟩ := h
  exact ⟨us, rfl, hl, fun i c u h1 h2 => (hc i c u h1 h2).move hk hok hb hE⟩
 | mv f caps =>
  obtain ⟨us, rfl, hl, hc⟩ := h
  exact ⟨us, rfl, hl, fun i c u h1 h2 => (hc i c u h1 h2).move hk hok hb hE⟩
 | g u => exact CRel0.move (c := .g u) h hk hok hb hE
 | sl fr z es => exact CRel0.move (c := .sl fr z es) h hk hok hb hE
 | ep cs => exact CRel0.move (c := .ep cs) h hk hok hb hE
 | bx k off => exact CRel0.move (c := .bx k off) h hk hok hb hE
 | ow k ver => exact CRel0.move (c := .ow k ver) h hk hok hb hE
 | op k ver i off => exact CRel0.move (c := .op k ver i off) h hk hok hb hE
 | os k ver lo => exact CRel0.move (c := .os k ver lo) h hk hok hb hE
 | ws k ver lo hi => exact CRel0.move (c := .ws k ver lo hi) h hk hok hb hE
 | mp k => exact CRel0.move (c := .mp k) h hk hok hb hE
 | fm kc es => exact CRel0.move (c := .fm kc es) h hk hok hb hE
 | any => exact CRel0.move (c := .any) h hk hok hb hE
theorem CsRel.move {cs : List Cel} {us : List Value} (h : CsRel w ok base E cs us) (hk : Keeps ok w w') (hok : ∀ b, b < w.heap.size → ok b → ok' b) (hb : base' ≤ base) (hE : EnvLe E E') : CsRel w' ok' base' E' cs us :=
 ⟨h.1, fun i c u h1 h2 => (h.2 i c u h1 h2).move hk hok hb hE⟩
theorem VRel.move {x : Val} {v : Value} (h : VRel w ok base E x v) (hk : Keeps ok w w') (hok : ∀ b, b < w.heap.size → ok b → ok' b) (hb : base' ≤ base) (hE : EnvLe E E') : VRel w' ok' base' E' x v := by
 induction h with
 | one hc => exact .one (hc.move hk hok hb hE)
 | ag hc => exact .ag (hc.move hk hok hb hE)
 | tu hl _ ih => exact .tu hl ih
 | any => exact .any
theorem CRel0.oneC {c : Cel} {v : Value} (h : CRel0 w ok base E c v) : v.oneCell' = true := by
 cases c with
 | g u => obtain ⟨rfl, h⟩ := h; exact h
 | sl fr z es => exact DRel.one h
 | ep cs => obtain ⟨b, off, us, rfl, _⟩ := h; rfl
 | bx k off => obtain ⟨g, _, rfl⟩ := h; rfl
 | ow k ver => exact h.1
 | op k ver i off => exact h.1
 | os k ver lo => exact h.1
 | ws k ver lo hi => exact h.1
 | mp k => exact h.1
 | fm kc es => exact DRel.one h
 | fn f caps => exact h.elim
 | mv f caps => exact h.elim
 | any => exact h
theorem CRel.oneC {c : Cel} {v : Value} (h : CRel w ok base E c v) : v.oneCell' = true := by
 cases c with
 | fn f caps => obtain ⟨us, rfl, _⟩ := h; rfl
 | mv f caps => obtain ⟨us, rfl, _⟩ := h; rfl
 | g u => obtain ⟨rfl, h⟩ := h; exact h
 | sl fr z es => exact CRel0.oneC (w := w) (ok := ok) (base := base) (E := E) (c := .sl fr z es) h
 | ep cs => exact CRel0.oneC (w := w) (ok := ok) (base := base) (E := E) (c := .ep cs) h
 | bx k off => exact CRel0.oneC (w := w) (ok := ok) (base := base) (E := E) (c := .bx k off) h
 | ow k ver => exact CRel0.oneC (w := w) (ok := ok) (base := base) (E := E) (c := .ow k ver) h
 | op k ver i off => exact CRel0.oneC (w := w) (ok := ok) (base := base) (E := E) (c := .op k ver i off) h
 | os k ver lo => exact CRel0.oneC (w := w) (ok := ok) (base := base) (E := E) (c := .os k ver lo) h
 | ws k ver lo hi => exact CRel0.oneC (w := w) (ok := ok) (base := base) (E := E) (c := .ws k ver lo hi) h
 | mp k => exact CRel0.oneC (w := w) (ok := ok) (base := base) (E := E) (c := .mp k) h
 | fm kc es => exact CRel0.oneC (w := w) (ok := ok) (base := base) (E := E) (c := .fm kc es) h
 | any => exact CRel0.oneC (w := w) (ok := ok) (base := base) (E := E) (c := .any) h
theorem CsRel.ones {cs : List Cel} {us : List Value} (h : CsRel w ok base E cs us) : ∀ v ∈ us, v.oneCell' = true := by
 intro v hv
 obtain ⟨i, hi⟩ := List.getElem?_of_mem hv
 have hlt : i < us.length := (List.getElem?_eq_some_iff.1 hi).1
 exact (h.2 i (cs[i]'(by have := h.1; omega)) v (List.getElem?_eq_getElem _) hi).oneC
/-- The cells of a value. -/
theorem VRel.cells {x : Val} {v : Value} {cs : List Cel} (h : VRel w ok base E x v) (hc : vcells x = some cs) : CsRel w ok base E cs v.cells.toList := by
 cases h with
 | @one c v h1 =>
  simp only [vcells, Option.some.injEq] at hc
  subst hc
  have h2 : v.cells = #[v] := by
   have := h1.oneC
   cases v <;> first | rfl | (simp [Value.oneCell'] at this)
  rw [h2]
  refine ⟨rfl, fun i c' u h3 h4 => ?_⟩
  match i with
  | 0 => simp at h3 h4; subst h3; subst h4; exact h1
  | i + 1 => simp at h3
 | ag h1 =>
  simp only [vcells, Option.some.injEq] at hc
  subst hc
  exact h1
 | tu => simp [vcells] at hc
 | any => simp [vcells] at hc
theorem CsRel.take {cs : List Cel} {us : List Value} (h : CsRel w ok base E cs us) (n : Nat) : CsRel w ok base E (cs.take n) (us.take n) := by
 refine ⟨by simp [h.1], fun i c u h1 h2 => ?_⟩
 rw [List.getElem?_take] at h1 h2
 split at h1
 ·rename_i hlt; rw [if_pos hlt] at h2; exact h.2 i c u h1 h2
 ·cases h1
theorem CsRel.drop {cs : List Cel} {us : List Value} (h : CsRel w ok base E cs us) (n : Nat) : CsRel w ok base E (cs.drop n) (us.drop n) := by
 refine ⟨by simp [h.1], fun i c u h1 h2 => ?_⟩
 rw [List.getElem?_drop] at h1 h2
 exact h.2 _ c u h1 h2
theorem CsRel.append {cs ds : List Cel} {us vs : List Value} (h : CsRel w ok base E cs us) (k : CsRel w ok base E ds vs) : CsRel w ok base E (cs ++ ds) (us ++ vs) := by
 refine ⟨by simp [h.1, k.1], fun i c u h1 h2 => ?_⟩
 rw [List.getElem?_append] at h1 h2
 rw [← h.1] at h2
 split at h1
 ·rename_i hlt; rw [if_pos hlt] at h2; exact h.2 i c u h1 h2
 ·rename_i hlt; rw [if_neg hlt] at h2; exact k.2 _ c u h1 h2
theorem CsRel.nil : CsRel w ok base E [] [] := ⟨rfl, fun i c u h => by simp at h⟩
theorem CsRel.cons {c : Cel} {u : Value} {cs : List Cel} {us : List Value} (h : CRel w ok base E c u) (k : CsRel w ok base E cs us) : CsRel w ok base E (c :: cs) (u :: us) := by
 refine ⟨by simp [k.1], fun i c' u' h1 h2 => ?_⟩
 match i with
 | 0 => simp at h1 h2; subst h1; subst h2; exact h
 | i + 1 => simp at h1 h2; exact k.2 i c' u' h1 h2
theorem CsRel.uncons {c : Cel} {cs : List Cel} {us : List Value} (h : CsRel w ok base E (c :: cs) us) : ∃ u us', us = u :: us' ∧ CRel w ok base E c u ∧ CsRel w ok base E cs us' := by
 match us, h with
 | [], h => exact absurd h.1 (by simp)
 | u :: us', h => exact ⟨u, us', rfl, h.2 0 c u rfl rfl, ⟨by simpa using h.1, fun i c' u' h1 h2 => h.2 (i + 1) c' u' h1 h2⟩⟩
theorem CsRel.at_ {cs : List Cel} {us : List Value} (h : CsRel w ok base E cs us) {i : Nat} {c : Cel} (hc : cs[i]? = some c) : ∃ u, us[i]? = some u ∧ CRel w ok base E c u := by
 have hlt : i < cs.length := (List.getElem?_eq_some_iff.1 hc).1
 have hlt' : i < us.length := by have := h.1; omega
 exact ⟨us[i], List.getElem?_eq_getElem _, h.2 i c _ hc (List.getElem?_eq_getElem _)⟩
theorem CsRel.gs (zs : List Value) (h : ∀ v ∈ zs, v.oneCell' = true) : CsRel w ok base E (zs.map .g) zs := by
 induction zs with
 | nil => exact .nil
 | cons v zs ih => exact .cons (c := .g v) ⟨rfl, h v (by simp)⟩ (ih fun u hu => h u (by simp [hu]))
end
/-- The block of a slice's row, or of a map. -/
def blkV : Value → Option Nat
 | .map r => r
 | v => v.ownBlock
theorem blkV_slice {a : Option Addr} {n c : Nat} : blkV (.slice a n c) = (Value.slice a n c).ownBlock := rfl
theorem row_blkV {w : World} {base z n : Nat} {e : TypeId} {v : Value} {xs : List Value} (h : w.ownsRow base e z v n xs) : blkV v = v.ownBlock := by
 rcases h.2 with ⟨rfl, _⟩ | ⟨_, _, _, rfl, _⟩ <;> rfl
/-- A map's entries: their keys and values. -/
def ownsM (w : World) (base c : Nat) (v : Value) (n : Nat) (xs : List Value) : Prop :=
 ∃ b es clock, v = .map (some b) ∧ base ≤ b ∧ w.heap[b]? = some (.map es clock) ∧ (es.size = n ∧ MapKept.Stamped es clock) ∧ xs = (es.toList.map fun e => [e.key, encV e.val]).flatten ∧ ∀ e ∈ es.toList, keyOk c e.key = true ∧ vOk c e.val
/-- What a row stands for: elements of a slice, or entries of a map (z = 0). -/
def owns (w : World) (base : Nat) (e : TypeId) (z : Nat) (v : Value) (n : Nat) (xs : List Value) : Prop :=
 (0 < z ∧ w.ownsRow base e z v n xs) ∨ (z = 0 ∧ ownsM w base e v n xs)
theorem owns.lt {w : World} {base z n : Nat} {e : TypeId} {v : Value} {xs : List Value} (h : owns w base e z v n xs) : ∀ k, blkV v = some k → base ≤ k ∧ k < w.heap.size := by
 intro k hk
 rcases h with ⟨_, h⟩ | ⟨_, b, es, clock, rfl, hb, hg, _⟩
 ·rw [row_blkV h] at hk; exact h.lt k hk
 ·simp only [blkV, Option.some.injEq] at hk; subst hk
  exact ⟨hb, (Array.getElem?_eq_some_iff.1 hg).1⟩
theorem owns.kept {w w' : World} {row : Option Nat} {base z n : Nat} {e : TypeId} {v : Value} {xs : List Value} (h : owns w base e z v n xs) (hg : w.grownBy w' row) (hne : blkV v = none ∨ blkV v ≠ row) : owns w' base e z v n xs := by
 rcases h with ⟨hz, h⟩ | ⟨hz, b, es, clock, rfl, hb, hgg, rest⟩
 ·rw [row_blkV h] at hne; exact .inl ⟨hz, h.kept hg hne⟩
 ·refine .inr ⟨hz, b, es, clock, rfl, hb, ?_, rest⟩
  rw [hg.block b (Array.getElem?_eq_some_iff.1 hgg).1 (by simpa [blkV] using hne)]
  exact hgg
theorem owns.alloc {w : World} {base z n : Nat} {e : TypeId} {v : Value} {xs : List Value} (h : owns w base e z v n xs) (o : Obj) : owns (w.alloc o) base e z v n xs :=
 h.kept (World.grownBy_alloc w o none) (by cases hv : blkV v <;> simp)
theorem owns.of_block {w w' : World} {base z n : Nat} {e : TypeId} {v : Value} {xs : List Value} (h : owns w base e z v n xs) (hb : ∀ b, blkV v = some b → w'.heap[b]? = w.heap[b]?) : owns w' base e z v n xs := by
 rcases h with ⟨hz, h⟩ | ⟨hz, b, es, clock, rfl, hb0, hgg, rest⟩
 ·refine .inl ⟨hz, h.1, h.2.imp id ?_⟩
  rintro ⟨g, cap, cur, rfl, hb0, hcell, hrest⟩
  exact ⟨g, cap, cur, rfl, hb0, (hb g rfl).trans hcell, hrest⟩
 ·exact .inr ⟨hz, b, es, clock, rfl, hb0, (hb b rfl).trans hgg, rest⟩
theorem owns.row {w : World} {base z n : Nat} {e : TypeId} {v : Value} {xs : List Value} (h : owns w base e z v n xs) (hz : 0 < z) : w.ownsRow base e z v n xs := by
 rcases h with ⟨_, h⟩ | ⟨h0, _⟩
 ·exact h
 ·omega
/-- A block of the call's own, or its box's: that is not to be looked at as data. -/
def okE (w0 : World) (okA : Nat → Prop) (E : Env) (b : Nat) : Prop :=
 (∀ k, E.gm k ≠ some b) ∧ (∀ k ver z u, E.rm k = some (ver, z, u) → (blkV u) ≠ some b) ∧ (w0.heap.size ≤ b ∨ okA b)
def rowOk (z : Nat) (es : List (List Cel)) : Prop := ∀ e ∈ es, e.length = z
/-- A map's entries: their keys are told. -/
def mapOk (es : List (List Cel)) : Prop := ∀ e ∈ es, ∃ k c, e = [.g k, c]
def rowOkZ (z : Nat) (es : List (List Cel)) : Prop := (0 < z → rowOk z es) ∧ (z = 0 → mapOk es)
theorem rowOkZ.of {z : Nat} {es : List (List Cel)} (hz : 0 < z) (h : rowOk z es) : rowOkZ z es := ⟨fun _ => h, fun h0 => by omega⟩
/-- Data cells, and what stands for them. -/
def RRel (w : World) (ok : Nat → Prop) (base : Nat) (cs : List Cel) (us : List Value) : Prop :=
 cs.length = us.length ∧ ∀ (i : Nat) (c : Cel) (u : Value), cs[i]? = some c → us[i]? = some u → c.isD = true ∧ CRel0 w ok base Env.none c u
section
variable {w w' : World} {ok ok' : Nat → Prop} {base base' : Nat} {E : Env}
theorem CRel0.ofD {c : Cel} {v : Value} {E' : Env} (hd : c.isD = true) (h : CRel0 w ok base E c v) : CRel0 w ok base E' c v := by
 cases c <;> first | exact h | (simp [Cel.isD] at hd)
theorem CRel.ofD {c : Cel} {v : Value} {E' : Env} (hd : c.isD = true) (h : CRel w ok base E c v) : CRel0 w ok base E' c v := by
 cases c <;> first | exact h | (simp [Cel.isD] at hd)
theorem CRel0.toC {c : Cel} {v : Value} (h : CRel0 w ok base E c v) : CRel w ok base E c v := by
 cases c <;> first | exact h | exact h.elim
theorem RRel.move {cs : List Cel} {us : List Value} (h : RRel w ok base cs us) (hk : Keeps ok w w') (hok : ∀ b, b < w.heap.size → ok b → ok' b) (hb : base' ≤ base) : RRel w' ok' base' cs us :=
 ⟨h.1, fun i c u h1 h2 => ⟨(h.2 i c u h1 h2).1, (h.2 i c u h1 h2).2.move hk hok hb (.refl _)⟩⟩
theorem RRel.nil : RRel w ok base [] [] := ⟨rfl, fun i c u h => by simp at h⟩
theorem RRel.append {cs ds : List Cel} {us vs : List Value} (h : RRel w ok base cs us) (k : RRel w ok base ds vs) : RRel w ok base (cs ++ ds) (us ++ vs) := by
 refine ⟨by simp [h.1, k.1], fun i c u h1 h2 => ?_⟩
 rw [List.getElem?_append] at h1 h2
 rw [← h.1] at h2
 split at h1
 ·rename_i hlt; rw [if_pos hlt] at h2; exact h.2 i c u h1 h2
 ·rename_i hlt; rw [if_neg hlt] at h2; exact k.2 _ c u h1 h2
theorem RRel.take {cs : List Cel} {us : List Value} (h : RRel w ok base cs us) (n : Nat) : RRel w ok base (cs.take n) (us.take n) := by
 refine ⟨by simp [h.1], fun i c u h1 h2 => ?_⟩
 rw [List.getElem?_take] at h1 h2
 split at h1
 ·rename_i hlt; rw [if_pos hlt] at h2; exact h.2 i c u h1 h2
 ·cases h1
theorem RRel.drop {cs : List Cel} {us : List Value} (h : RRel w ok base cs us) (n : Nat) : RRel w ok base (cs.drop n) (us.drop n) := by
 refine ⟨by simp [h.1], fun i c u h1 h2 => ?_⟩
 rw [List.getElem?_drop] at h1 h2
 exact h.2 _ c u h1 h2
theorem RRel.of {cs : List Cel} {us : List Value} (h : CsRel w ok base E cs us) (hd : ∀ c ∈ cs, c.isD = true) : RRel w ok base cs us :=
 ⟨h.1, fun i c u h1 h2 => ⟨hd c (List.mem_of_getElem? h1), (h.2 i c u h1 h2).ofD (hd c (List.mem_of_getElem? h1))⟩⟩
theorem RRel.toCs {cs : List Cel} {us : List Value} (h : RRel w ok base cs us) : CsRel w ok base E cs us :=
 ⟨h.1, fun i c u h1 h2 => ((h.2 i c u h1 h2).2.ofD (h.2 i c u h1 h2).1).toC⟩
theorem RRel.at_ {cs : List Cel} {us : List Value} (h : RRel w ok base cs us) {i : Nat} {c : Cel} (hc : cs[i]? = some c) : ∃ u, us[i]? = some u ∧ c.isD = true ∧ CRel0 w ok base Env.none c u := by
 have hlt : i < cs.length := (List.getElem?_eq_some_iff.1 hc).1
 have hlt' : i < us.length := by have := h.1; omega
 exact ⟨us[i], List.getElem?_eq_getElem _, h.2 i c _ hc (List.getElem?_eq_getElem _)⟩
theorem RRel.ones {cs : List Cel} {us : List Value} (h : RRel w ok base cs us) : ∀ v ∈ us, v.oneCell' = true := (h.toCs (E := Env.none)).ones
end
/-- What a call was handed of others: the blocks that it may turn. -/
structure Grew (X : Nat → Prop) (w w' : World) : Prop where
 os : w'.os = w.os
 tape : w'.tape = w.tape
 output : w'.output = w.output
 size : w.heap.size ≤ w'.heap.size
 block : ∀ k, k < w.heap.size → ¬ X k → w'.heap[k]? = w.heap[k]?
theorem Grew.refl (X : Nat → Prop) (w : World) : Grew X w w := ⟨rfl, rfl, rfl, Nat.le_refl _, fun _ _ _ => rfl⟩
/-- What was handed over: the blocks that may turn; the blocks of the boxes, by key. -/
structure Ext where
 blk : Nat → Prop
 gk : Nat → Option Nat
 rk : Nat → Nat → Prop
 r0 : Nat → Value → Prop
 bT : TypeId → Prop
/-- Keys of boxes that are strings.Builders. -/
def bldK (k : Nat) : Bool := decide (900000 ≤ k ∧ k < 1000000) || decide (1900000 ≤ k ∧ k < 2000000)
theorem bldK_lt {k : Nat} (h : k < 900000) : bldK k = false := by unfold bldK; rw [decide_eq_false (by omega), decide_eq_false (by omega)]; rfl
/-- The box of a key is one of such a type. -/
def TyB (bT : TypeId → Prop) (w : World) (E : Env) : Prop := ∀ k g, bldK k = true → E.gm k = some g → ∃ cur T, w.heap[g]? = some (.cells cur T (0, 0)) ∧ bT T
/-- strings.Builder. -/
def isBld (P : Program) (t : TypeId) : Bool := match P.types[t]? with | some i => i.str == "strings.Builder" | none => false
/-- What is laid where the call began, and that nothing of it was handed over to be turned. -/
class Tabs (P : Program) (w0 : World) (okA : Nat → Prop) (ext : Ext) : Prop where
 tab : TabB P w0 okA
 xo : ∀ b, ext.blk b → ¬ okA b
 bt : ext.bT = fun t => isBld P t = true
structure St (w0 : World) (okA : Nat → Prop) (ext : Ext) (N : Nat) (s : AS) (a : Act) (w : World) (E : Env) : Prop where
 size : a.tmps.size = N
 defers : a.defers = []
 tm : ∀ t, VRel w (okE w0 okA E) w0.heap.size E (s.tm t) (a.tmps.getD t undef)
 bx : ∀ k cs, s.bx k = some cs → ∃ g cur ty, E.gm k = some g ∧ w.heap[g]? = some (.cells cur ty (0, 0)) ∧ CsRel w (okE w0 okA E) w0.heap.size E cs cur.toList
 bxn : ∀ k, s.bx k = none → E.gm k = none
 rw : ∀ k r, s.rw k = some r → (r.z = 0 → r.ver = 0) ∧ rowOkZ r.z r.es ∧ ∃ u vs, E.rm k = some (r.ver, r.z, u) ∧ owns w 0 r.E r.z u r.es.length vs ∧ RRel w (okE w0 okA E) w0.heap.size r.es.flatten vs
 rwn : ∀ k, s.rw k = none → E.rm k = none
 ginj : ∀ k k' g, E.gm k = some g → E.gm k' = some g → k = k'
 gr : ∀ k g k' ver z u, E.gm k = some g → E.rm k' = some (ver, z, u) → (blkV u) ≠ some g
 rr : ∀ k ver z u k' ver' z' u' b, E.rm k = some (ver, z, u) → E.rm k' = some (ver', z', u') → (blkV u) = some b → (blkV u') = some b → k = k'
 gfr : ∀ k g, E.gm k = some g → w0.heap.size ≤ g ∨ (ext.blk g ∧ (k = 0 ∨ XK ≤ k))
 gx : ∀ k g, (k = 0 ∨ XK ≤ k) → E.gm k = some g → ext.gk k = some g
 nx : N ≤ 900000
 rfr : ∀ k ver z u b, E.rm k = some (ver, z, u) → (blkV u) = some b → w0.heap.size ≤ b ∨ (XK ≤ k ∧ ext.rk k b ∧ ext.blk b)
 rst : ∀ k z u, XK ≤ k → E.rm k = some (0, z, u) → ext.r0 k u
 frame : Grew ext.blk w0 w
 bt : TyB ext.bT w E
section
variable {w0 w w' : World} {okA : Nat → Prop} {ext : Ext} {N : Nat} {s : AS} {a : Act} {E : Env}
theorem St.rwS (h : St w0 okA ext N s a w E) {k : Nat} {r : Row} (hs : s.rw k = some r) (hz : 0 < r.z) : 0 < r.z ∧ rowOk r.z r.es ∧ ∃ u vs, E.rm k = some (r.ver, r.z, u) ∧ w.ownsRow 0 r.E r.z u r.es.length vs ∧ RRel w (okE w0 okA E) w0.heap.size r.es.flatten vs := by
 obtain ⟨_, h2, u, vs, h3, h4, h5⟩ := h.rw k r hs
 exact ⟨hz, h2.1 hz, u, vs, h3, h4.row hz, h5⟩
theorem St.zpos (h : St w0 okA ext N s a w E) {k ver z : Nat} {r : Row} {u : Value} (hs : s.rw k = some r) (hr : E.rm k = some (ver, z, u)) (hz : 0 < z) : 0 < r.z := by
 obtain ⟨_, _, u', _, h3, _⟩ := h.rw k r hs
 rw [h3] at hr
 simp only [Option.some.injEq, Prod.mk.injEq] at hr
 omega
theorem St.glt (h : St w0 okA ext N s a w E) {k g : Nat} (hg : E.gm k = some g) : g < w.heap.size := by
 cases hb : s.bx k with
 | none => rw [h.bxn k hb] at hg; cases hg
 | some cs =>
  obtain ⟨g', cur, ty, h1, h2, _⟩ := h.bx k cs hb
  rw [h1] at hg; injection hg with hg; subst hg
  rcases Nat.lt_or_ge g' w.heap.size with hl | hl
  ·exact hl
  ·rw [Array.getElem?_eq_none hl] at h2; cases h2
theorem St.rlt (h : St w0 okA ext N s a w E) {k ver z b : Nat} {u : Value} (hr : E.rm k = some (ver, z, u)) (hu : (blkV u) = some b) : b < w.heap.size := by
 cases hb : s.rw k with
 | none => rw [h.rwn k hb] at hr; cases hr
 | some r =>
  obtain ⟨_, _, u', vs, h1, h2, _⟩ := h.rw k r hb
  rw [h1] at hr; injection hr with hr
  simp only [Prod.mk.injEq] at hr
  obtain ⟨_, _, rfl⟩ := hr
  exact (h2.lt b hu).2
theorem St.tab {P : Program} [hT : Tabs P w0 okA ext] (h : St w0 okA ext N s a w E) : TabB P w (okE w0 okA E) ∧ TabB P w fun _ => True := by
 obtain ⟨W, h1, h2, h3⟩ := hT.tab
 have hb : ∀ b, b < W.heap.size → w.heap[b]? = W.heap[b]? := fun b hb => (h.frame.block b (by omega) fun hx => hT.xo b hx (h3 b hb).1).trans (h3 b hb).2
 have hs := h.frame.size
 refine ⟨⟨W, h1, by omega, fun b hlt => ⟨⟨fun k hg => ?_, fun k ver z u hr hu => ?_, .inr (h3 b hlt).1⟩, hb b hlt⟩⟩, ⟨W, h1, by omega, fun b hlt => ⟨trivial, hb b hlt⟩⟩⟩
 ·rcases h.gfr k b hg with h4 | h4
  ·omega
  ·exact hT.xo b h4.1 (h3 b hlt).1
 ·rcases h.rfr k ver z u b hr hu with h4 | h4
  ·omega
  ·exact hT.xo b h4.2.2 (h3 b hlt).1
theorem St.put (h : St w0 okA ext N s a w E) {d : Option Nat} {x : Val} {v : Value} (hx : VRel w (okE w0 okA E) w0.heap.size E x v) (hd : ∀ k, d = some k → k < N) : St w0 okA ext N (s.put d x) (a.put d v) w E := by
 cases d with
 | none => exact h
 | some k =>
  have hk := hd k rfl
  refine { h with size := ?_, defers := h.defers, tm := fun t => ?_ }
  ·simp [Act.put, h.size]
  ·simp only [AS.put, upd, Act.put]
   by_cases ht : t = k
   ·subst ht
    have : (a.tmps.setIfInBounds t v).getD t undef = v := by simp [Array.getD, h.size, hk]
    rw [if_pos rfl, this]; exact hx
   ·have : (a.tmps.setIfInBounds k v).getD t undef = a.tmps.getD t undef := by
     simp [Array.getD_eq_getD_getElem?, Ne.symm ht]
    rw [if_neg ht, this]; exact h.tm t
/-- The world grows; nothing that was there has turned. -/
theorem St.grown (h : St w0 okA ext N s a w E) (hg : w.grownBy w' none) : St w0 okA ext N s a w' E where
 size := h.size
 defers := h.defers
 tm t := (h.tm t).move (.of_grown hg) (fun _ _ h => h) (Nat.le_refl _) (.refl E)
 bx k cs hc := by
  obtain ⟨g, cur, ty, h1, h2, h3⟩ := h.bx k cs hc
  exact ⟨g, cur, ty, h1, (hg.block g (h.glt h1) (by simp)).trans h2, h3.move (.of_grown hg) (fun _ _ h => h) (Nat.le_refl _) (.refl E)⟩
 bxn := h.bxn
 rw k r hr := by
  obtain ⟨h1, h2, u, vs, h3, h4, h5⟩ := h.rw k r hr
  refine ⟨h1, h2, u, vs, h3, ?_, h5.move (.of_grown hg) (fun _ _ h => h) (Nat.le_refl _)⟩
  rcases hu : (blkV u) with _ | b
  ·exact h4.kept hg (.inl hu)
  ·exact h4.kept hg (.inr (by rw [hu]; simp))
 rwn := h.rwn
 ginj := h.ginj
 gr := h.gr
 rr := h.rr
 gfr := h.gfr
 gx := h.gx
 nx := h.nx
 rfr := h.rfr
 rst := h.rst
 frame := by
  refine ⟨hg.os.trans h.frame.os, hg.tape.trans h.frame.tape, hg.output.trans h.frame.output, Nat.le_trans h.frame.size hg.size, fun k hk hne => ?_⟩
  exact (hg.block k (Nat.lt_of_lt_of_le hk h.frame.size) (by simp)).trans (h.frame.block k hk hne)
 bt := fun k g hk hg' => (h.bt k g hk hg').imp fun cur h => h.imp fun T h => ⟨(hg.block g (by have := (Array.getElem?_eq_some_iff.1 h.1).1; exact this) (by simp)).trans h.1, h.2⟩
end
end Go.Ai
namespace Go.Ai
open Go
set_option linter.unusedSimpArgs false
set_option linter.unusedVariables false
theorem upd_same {α : Type} (f : Nat → α) (k : Nat) (v : α) : upd f k v k = v := by simp [upd]
theorem upd_ne {α : Type} (f : Nat → α) {k j : Nat} (v : α) (h : j ≠ k) : upd f k v j = f j := by simp [upd, h]
section
variable {w0 w w' : World} {okA : Nat → Prop} {ext : Ext} {N : Nat} {s : AS} {a : Act} {E : Env}
theorem St.box (h : St w0 okA ext N s a w E) {k : Nat} {cs : List Cel} {cur : List Value} {ty : TypeId} (hk : s.bx k = none) (hk0 : k ≠ 0) (hkN : k < N)
  (hcs : CsRel w (okE w0 okA E) w0.heap.size E cs cur) :
  St w0 okA ext N { s with tm := upd s.tm k (.one (.bx k 0)), bx := upd s.bx k (some cs) } (a.put (some k) (.pointer (some ⟨w.heap.size, 0, none⟩))) (w.alloc (.cells cur.toArray ty))
   ⟨upd E.gm k (some w.heap.size), E.rm⟩ := by
 have hEk : E.gm k = none := h.bxn k hk
 have hkeep : Keeps (okE w0 okA E) w (w.alloc (.cells cur.toArray ty)) := ⟨by simp, fun b hb _ => RowKit.Below.heap_alloc w _ b hb⟩
 have hle : EnvLe E ⟨upd E.gm k (some w.heap.size), E.rm⟩ := ⟨fun j g hj => by
  have : j ≠ k := by rintro rfl; rw [hEk] at hj; cases hj
  simp only [upd_ne _ _ this]; exact hj, (EnvLe.refl E).rm⟩
 have hok : ∀ b, b < w.heap.size → okE w0 okA E b → okE w0 okA ⟨upd E.gm k (some w.heap.size), E.rm⟩ b := fun b hb ho => by
  refine ⟨fun j => ?_, ho.2.1, ho.2.2⟩
  by_cases hj : j = k
  ·subst hj; simp only [upd_same]; intro he; injection he with he; omega
  ·simp only [upd_ne _ _ hj]; exact ho.1 j
 refine ⟨?_, h.defers, fun t => ?_, fun j cs' hj => ?_, fun j hj => ?_, fun j r hr => ?_, h.rwn, fun j j' g hj hj' => ?_, fun j g j' ver z u hj hr => ?_, h.rr, fun j g hj => ?_, fun j g hjk hj => ?_, h.nx, h.rfr, h.rst, ?_, fun j g hj hg => ?_⟩
 ·simp [Act.put, h.size]
 ·by_cases ht : t = k
  ·subst ht
   have : (a.put (some t) (.pointer (some ⟨w.heap.size, 0, none⟩))).tmps.getD t undef = .pointer (some ⟨w.heap.size, 0, none⟩) := by simp [Act.put, Array.getD, h.size, hkN]
   rw [this]; simp only [upd_same]
   exact .one ⟨w.heap.size, by simp [upd_same], rfl⟩
  ·have : (a.put (some k) (.pointer (some ⟨w.heap.size, 0, none⟩))).tmps.getD t undef = a.tmps.getD t undef := by simp [Act.put, Array.getD_eq_getD_getElem?, Ne.symm ht]
   rw [this]; simp only [upd_ne _ _ ht]
   exact (h.tm t).move hkeep hok (Nat.le_refl _) hle
 ·by_cases hj' : j = k
  ·subst hj'
   simp only [upd_same, Option.some.injEq] at hj; subst hj
   exact ⟨w.heap.size, cur.toArray, ty, by simp [upd_same], heap_alloc_new w _, hcs.move hkeep hok (Nat.le_refl _) hle⟩
  ·simp only [upd_ne _ _ hj'] at hj
   obtain ⟨g, c0, ty', h1, h2, h3⟩ := h.bx j cs' hj
   exact ⟨g, c0, ty', by simp only [upd_ne _ _ hj']; exact h1, (RowKit.Below.heap_alloc w _ g (h.glt h1)).trans h2, h3.move hkeep hok (Nat.le_refl _) hle⟩
 ·by_cases hj' : j = k
  ·subst hj'; simp [upd_same] at hj
  ·simp only [upd_ne _ _ hj'] at hj ⊢; exact h.bxn j hj
 ·obtain ⟨h1, h2, u, vs, h3, h4, h5⟩ := h.rw j r hr
  exact ⟨h1, h2, u, vs, h3, h4.alloc _, h5.move hkeep hok (Nat.le_refl _)⟩
 ·by_cases e : j = k <;> by_cases e' : j' = k
  ·rw [e, e']
  ·subst e; simp only [upd_same, upd_ne _ _ e', Option.some.injEq] at hj hj'
   have := h.glt hj'; omega
  ·subst e'; simp only [upd_same, upd_ne _ _ e, Option.some.injEq] at hj hj'
   have := h.glt hj; omega
  ·simp only [upd_ne _ _ e, upd_ne _ _ e'] at hj hj'; exact h.ginj j j' g hj hj'
 ·by_cases e : j = k
  ·subst e; simp only [upd_same, Option.some.injEq] at hj
   intro hu; have := h.rlt hr hu; omega
  ·simp only [upd_ne _ _ e] at hj; exact h.gr j g j' ver z u hj hr
 ·by_cases e : j = k
  ·subst e; simp only [upd_same, Option.some.injEq] at hj; subst hj; exact .inl h.frame.size
  ·simp only [upd_ne _ _ e] at hj; exact h.gfr j g hj
 ·by_cases e : j = k
  ·subst e; have := h.nx; exfalso; rcases hjk with h1 | h1 <;> (try simp only [XK] at h1) <;> omega
  ·simp only [upd_ne _ _ e] at hj; exact h.gx j g hjk hj
 ·exact ⟨h.frame.os, h.frame.tape, h.frame.output, Nat.le_trans h.frame.size (by simp), fun b hb hne => (RowKit.Below.heap_alloc w _ b (Nat.lt_of_lt_of_le hb h.frame.size)).trans (h.frame.block b hb hne)⟩
 ·by_cases e : j = k
  ·subst e; have := h.nx; rw [bldK_lt (by omega)] at hj; cases hj
  ·simp only [upd_ne _ _ e] at hg
   obtain ⟨c0, T, h1, h2⟩ := h.bt j g hj hg
   exact ⟨c0, T, (RowKit.Below.heap_alloc w _ g (Array.getElem?_eq_some_iff.1 h1).1).trans h1, h2⟩
theorem St.bld (h : St w0 okA ext N s a w E) {k : Nat} {cs : List Cel} {cur : List Value} {ty : TypeId} {d : Nat} (hk : s.bx k = none) (hkb : 900000 ≤ k ∧ k < 1000000) (hkN : d < N) (hbT : ext.bT ty)
  (hcs : CsRel w (okE w0 okA E) w0.heap.size E cs cur) :
  St w0 okA ext N { s with tm := upd s.tm d (.one (.bx k 0)), bx := upd s.bx k (some cs) } (a.put (some d) (.pointer (some ⟨w.heap.size, 0, none⟩))) (w.alloc (.cells cur.toArray ty))
   ⟨upd E.gm k (some w.heap.size), E.rm⟩ := by
 have hEk : E.gm k = none := h.bxn k hk
 have hkeep : Keeps (okE w0 okA E) w (w.alloc (.cells cur.toArray ty)) := ⟨by simp, fun b hb _ => RowKit.Below.heap_alloc w _ b hb⟩
 have hle : EnvLe E ⟨upd E.gm k (some w.heap.size), E.rm⟩ := ⟨fun j g hj => by
  have : j ≠ k := by rintro rfl; rw [hEk] at hj; cases hj
  simp only [upd_ne _ _ this]; exact hj, (EnvLe.refl E).rm⟩
 have hok : ∀ b, b < w.heap.size → okE w0 okA E b → okE w0 okA ⟨upd E.gm k (some w.heap.size), E.rm⟩ b := fun b hb ho => by
  refine ⟨fun j => ?_, ho.2.1, ho.2.2⟩
  by_cases hj : j = k
  ·subst hj; simp only [upd_same]; intro he; injection he with he; omega
  ·simp only [upd_ne _ _ hj]; exact ho.1 j
 refine ⟨?_, h.defers, fun t => ?_, fun j cs' hj => ?_, fun j hj => ?_, fun j r hr => ?_, h.rwn, fun j j' g hj hj' => ?_, fun j g j' ver z u hj hr => ?_, h.rr, fun j g hj => ?_, fun j g hjk hj => ?_, h.nx, h.rfr, h.rst, ?_, fun j g hj hg => ?_⟩
 ·simp [Act.put, h.size]
 ·by_cases ht : t = d
  ·subst ht
   have : (a.put (some t) (.pointer (some ⟨w.heap.size, 0, none⟩))).tmps.getD t undef = .pointer (some ⟨w.heap.size, 0, none⟩) := by simp [Act.put, Array.getD, h.size, hkN]
   rw [this]; simp only [upd_same]
   exact .one ⟨w.heap.size, by simp [upd_same], rfl⟩
  ·have : (a.put (some d) (.pointer (some ⟨w.heap.size, 0, none⟩))).tmps.getD t undef = a.tmps.getD t undef := by simp [Act.put, Array.getD_eq_getD_getElem?, Ne.symm ht]
   rw [this]; simp only [upd_ne _ _ ht]
   exact (h.tm t).move hkeep hok (Nat.le_refl _) hle
 ·by_cases hj' : j = k
  ·subst hj'
   simp only [upd_same, Option.some.injEq] at hj; subst hj
   exact ⟨w.heap.size, cur.toArray, ty, by simp [upd_same], heap_alloc_new w _, hcs.move hkeep hok (Nat.le_refl _) hle⟩
  ·simp only [upd_ne _ _ hj'] at hj
   obtain ⟨g, c0, ty', h1, h2, h3⟩ := h.bx j cs' hj
   exact ⟨g, c0, ty', by simp only [upd_ne _ _ hj']; exact h1, (RowKit.Below.heap_alloc w _ g (h.glt h1)).trans h2, h3.move hkeep hok (Nat.le_refl _) hle⟩
 ·by_cases hj' : j = k
  ·subst hj'; simp [upd_same] at hj
  ·simp only [upd_ne _ _ hj'] at hj ⊢; exact h.bxn j hj
 ·obtain ⟨h1, h2, u, vs, h3, h4, h5⟩ := h.rw j r hr
  exact ⟨h1, h2, u, vs, h3, h4.alloc _, h5.move hkeep hok (Nat.le_refl _)⟩
 ·by_cases e : j = k <;> by_cases e' : j' = k
  ·rw [e, e']
  ·subst e; simp only [upd_same, upd_ne _ _ e', Option.some.injEq] at hj hj'
   have := h.glt hj'; omega
  ·subst e'; simp only [upd_same, upd_ne _ _ e, Option.some.injEq] at hj hj'
   have := h.glt hj; omega
  ·simp only [upd_ne _ _ e, upd_ne _ _ e'] at hj hj'; exact h.ginj j j' g hj hj'
 ·by_cases e : j = k
  ·subst e; simp only [upd_same, Option.some.injEq] at hj
   intro hu; have := h.rlt hr hu; omega
  ·simp only [upd_ne _ _ e] at hj; exact h.gr j g j' ver z u hj hr
 ·by_cases e : j = k
  ·subst e; simp only [upd_same, Option.some.injEq] at hj; subst hj; exact .inl h.frame.size
  ·simp only [upd_ne _ _ e] at hj; exact h.gfr j g hj
 ·by_cases e : j = k
  ·subst e; exfalso; rcases hjk with h1 | h1 <;> (try simp only [XK] at h1) <;> omega
  ·simp only [upd_ne _ _ e] at hj; exact h.gx j g hjk hj
 ·exact ⟨h.frame.os, h.frame.tape, h.frame.output, Nat.le_trans h.frame.size (by simp), fun b hb hne => (RowKit.Below.heap_alloc w _ b (Nat.lt_of_lt_of_le hb h.frame.size)).trans (h.frame.block b hb hne)⟩
 ·by_cases e : j = k
  ·subst e; simp only [upd_same, Option.some.injEq] at hg; subst hg
   exact ⟨cur.toArray, ty, heap_alloc_new w _, hbT⟩
  ·simp only [upd_ne _ _ e] at hg
   obtain ⟨c0, T, h1, h2⟩ := h.bt j g hj hg
   exact ⟨c0, T, (RowKit.Below.heap_alloc w _ g (Array.getElem?_eq_some_iff.1 h1).1).trans h1, h2⟩
/-- A box turns (and new blocks may come). -/
theorem St.boxTurn (h : St w0 okA ext N s a w E) {k g : Nat} {cs' : List Cel} {cur' : Array Value} {ty : TypeId} (hg : E.gm k = some g)
  (hgr : w.grownBy w' (some g)) (hw : w'.heap[g]? = some (.cells cur' ty (0, 0))) (hcs : CsRel w' (okE w0 okA E) w0.heap.size E cs' cur'.toList) (hbt : bldK k = true → ext.bT ty) :
  St w0 okA ext N { s with bx := upd s.bx k (some cs') } a w' E := by
 have hkeep : Keeps (okE w0 okA E) w w' := ⟨hgr.size, fun b hb ho => hgr.block b hb (fun e => ho.1 k (by rw [hg]; exact e.symm))⟩
 refine ⟨h.size, h.defers, fun t => (h.tm t).move hkeep (fun _ _ h => h) (Nat.le_refl _) (.refl E), fun j cs hj => ?_, fun j hj => ?_, fun j r hr => ?_, h.rwn, h.ginj, h.gr, h.rr, h.gfr, h.gx, h.nx, h.rfr, h.rst, ?_, fun j g' hj hg' => ?_⟩
 ·by_cases e : j = k
  ·subst e; simp only [upd_same, Option.some.injEq] at hj; subst hj
   exact ⟨g, cur', ty, hg, hw, hcs⟩
  ·simp only [upd_ne _ _ e] at hj
   obtain ⟨g', c0, ty', h1, h2, h3⟩ := h.bx j cs hj
   have hne : g' ≠ g := by rintro rfl; exact e (h.ginj _ _ _ h1 hg)
   exact ⟨g', c0, ty', h1, (hgr.block g' (h.glt h1) (by simpa using hne)).trans h2, h3.move hkeep (fun _ _ h => h) (Nat.le_refl _) (.refl E)⟩
 ·by_cases e : j = k
  ·subst e; simp [upd_same] at hj
  ·simp only [upd_ne _ _ e] at hj; exact h.bxn j hj
 ·obtain ⟨h1, h2, u, vs, h3, h4, h5⟩ := h.rw j r hr
  exact ⟨h1, h2, u, vs, h3, h4.kept hgr (.inr (h.gr k g j _ _ u hg h3)), h5.move hkeep (fun _ _ h => h) (Nat.le_refl _)⟩
 ·refine ⟨hgr.os.trans h.frame.os, hgr.tape.trans h.frame.tape, hgr.output.trans h.frame.output, Nat.le_trans h.frame.size hgr.size, fun b hb hne => ?_⟩
  refine (hgr.block b (Nat.lt_of_lt_of_le hb h.frame.size) (fun e => ?_)).trans (h.frame.block b hb hne)
  injection e with e; subst e
  rcases h.gfr k b hg with h1 | h1
  ·omega
  ·exact hne h1.1
 ·obtain ⟨c0, T, h1, h2⟩ := h.bt j g' hj hg'
  by_cases e : g' = g
  ·subst e; obtain rfl := h.ginj _ _ _ hg' hg
   exact ⟨cur', ty, hw, hbt hj⟩
  ·exact ⟨c0, T, (hgr.block g' (Array.getElem?_eq_some_iff.1 h1).1 (by simpa using e)).trans h1, h2⟩
/-- A row turns. -/
theorem St.rowTurnG (h : St w0 okA ext N s a w E) {k : Nat} {r r' : Row} {u u' : Value} {vs' : List Value} (hr : s.rw k = some r) (hu : E.rm k = some (r.ver, r.z, u))
  (hz : r'.z = r.z) (hv : r.ver ≤ r'.ver) (hv0 : r.z = 0 → r'.ver = 0) (hvu : r.ver = r'.ver ∨ r.z = 0 → u = u') (hok : rowOkZ r'.z r'.es)
  (hgr : w.grownBy w' (blkV u)) (hown : owns w' 0 r'.E r'.z u' r'.es.length vs') (hrel : RRel w (okE w0 okA E) w0.heap.size r'.es.flatten vs') (hat : (blkV u') = (blkV u) ∨ (blkV u') = some w.heap.size ∨ (blkV u') = none) :
  St w0 okA ext N { s with rw := upd s.rw k (some r') } a w' ⟨E.gm, upd E.rm k (some (r'.ver, r'.z, u'))⟩ := by
 obtain ⟨hz0, _, u0, vs0, hu0, hown0, _⟩ := h.rw k r hr
 rw [hu] at hu0
 simp only [Option.some.injEq, Prod.mk.injEq, true_and] at hu0
 subst hu0
 have hkeep : Keeps (okE w0 okA E) w w' := ⟨hgr.size, fun b hb ho => hgr.block b hb (fun e => ho.2.1 k _ _ u hu e.symm)⟩
 have hle : EnvLe E ⟨E.gm, upd E.rm k (some (r'.ver, r'.z, u'))⟩ := ⟨fun _ _ h => h, fun j ver z v hj => by
  by_cases e : j = k
  ·subst e
   rw [hu] at hj; simp only [Option.some.injEq, Prod.mk.injEq] at hj
   obtain ⟨rfl, rfl, rfl⟩ := hj
   exact ⟨r'.ver, u', by simp [upd_same, hz], hv, hvu⟩
  ·exact ⟨ver, v, by simp only [upd_ne _ _ e]; exact hj, Nat.le_refl _, fun _ => rfl⟩⟩
 have hokb : ∀ b, b < w.heap.size → okE w0 okA E b → okE w0 okA ⟨E.gm, upd E.rm k (some (r'.ver, r'.z, u'))⟩ b := fun b hb ho => by
  refine ⟨ho.1, fun j ver z v hj => ?_, ho.2.2⟩
  by_cases e : j = k
  ·subst e
   simp only [upd_same, Option.some.injEq, Prod.mk.injEq] at hj
   obtain ⟨_, _, rfl⟩ := hj
   rcases hat with h1 | h1 | h1 <;> rw [h1]
   ·exact ho.2.1 j _ _ u hu
   ·intro h2; injection h2 with h2; omega
   ·simp
  ·simp only [upd_ne _ _ e] at hj; exact ho.2.1 j ver z v hj
 have hrow : ∀ {j ver z v}, (upd E.rm k (some (r'.ver, r'.z, u'))) j = some (ver, z, v) → (j = k ∧ v = u') ∨ (j ≠ k ∧ E.rm j = some (ver, z, v)) := fun {j ver z v} hj => by
  by_cases e : j = k
  ·subst e; simp only [upd_same, Option.some.injEq, Prod.mk.injEq] at hj; exact .inl ⟨rfl, hj.2.2.symm⟩
  ·simp only [upd_ne _ _ e] at hj; exact .inr ⟨e, hj⟩
 refine ⟨h.size, h.defers, fun t => (h.tm t).move hkeep hokb (Nat.le_refl _) hle, fun j cs hj => ?_, h.bxn, fun j q hq => ?_, fun j hj => ?_, h.ginj, fun j g j' ver z v hj hv' => ?_, fun j ver z v j' ver' z' v' b hj hj' hb hb' => ?_, h.gfr, h.gx, h.nx, fun j ver z v b hj hb => ?_, fun j z v hjk hj => ?_, ?_, fun j g hj hg => ?_⟩
 ·obtain ⟨g, c0, ty', h1, h2, h3⟩ := h.bx j cs hj
  exact ⟨g, c0, ty', h1, (hgr.block g (h.glt h1) (fun e => h.gr j g k _ _ u h1 hu e.symm)).trans h2, h3.move hkeep hokb (Nat.le_refl _) hle⟩
 ·by_cases e : j = k
  ·subst e; simp only [upd_same, Option.some.injEq] at hq; subst hq
   exact ⟨fun h0 => hv0 (by omega), hok, u', vs', by simp [upd_same], hown, hrel.move hkeep hokb (Nat.le_refl _)⟩
  ·simp only [upd_ne _ _ e] at hq
   obtain ⟨h1, h2, v, vs, h3, h4, h5⟩ := h.rw j q hq
   refine ⟨h1, h2, v, vs, by simp only [upd_ne _ _ e]; exact h3, ?_, h5.move hkeep hokb (Nat.le_refl _)⟩
   rcases hb : (blkV v) with _ | b
   ·exact h4.kept hgr (.inl hb)
   ·refine h4.kept hgr (.inr (fun he => ?_))
    exact e (h.rr j _ _ v k _ _ u b h3 hu hb (he ▸ hb))
 ·by_cases e : j = k
  ·subst e; simp [upd_same] at hj
  ·simp only [upd_ne _ _ e] at hj ⊢; exact h.rwn j hj
 ·rcases hrow hv' with ⟨rfl, rfl⟩ | ⟨_, h1⟩
  ·rcases hat with h1 | h1 | h1 <;> rw [h1]
   ·exact h.gr j g _ _ _ u hj hu
   ·intro h2; injection h2 with h2; have := h.glt hj; omega
   ·simp
  ·exact h.gr j g j' ver z v hj h1
 ·rcases hrow hj with ⟨rfl, rfl⟩ | ⟨e1, h1⟩ <;> rcases hrow hj' with ⟨rfl, rfl⟩ | ⟨e2, h2⟩
  ·rfl
  ·rcases hat with h3 | h3 | h3 <;> rw [h3] at hb
   ·exact absurd (h.rr _ _ _ u j' _ _ v' b hu h2 hb hb').symm e2
   ·injection hb with hb; have := h.rlt h2 hb'; omega
   ·cases hb
  ·rcases hat with h3 | h3 | h3 <;> rw [h3] at hb'
   ·exact absurd (h.rr j _ _ v _ _ _ u b h1 hu hb hb') e1
   ·injection hb' with hb'; have := h.rlt h1 hb; omega
   ·cases hb'
  ·exact h.rr j _ _ v j' _ _ v' b h1 h2 hb hb'
 ·rcases hrow hj with ⟨rfl, rfl⟩ | ⟨_, h1⟩
  ·rcases hat with h2 | h2 | h2 <;> rw [h2] at hb
   ·exact h.rfr j _ _ u b hu hb
   ·injection hb with hb; subst hb; exact .inl h.frame.size
   ·cases hb
  ·exact h.rfr j ver z v b h1 hb
 ·by_cases e : j = k
  ·subst e; simp only [upd_same, Option.some.injEq, Prod.mk.injEq] at hj
   obtain ⟨h1, _, rfl⟩ := hj
   have h2 : r.ver = 0 := by omega
   rw [← hvu (.inl (by omega))]
   rw [h2] at hu
   exact h.rst j _ _ hjk hu
  ·simp only [upd_ne _ _ e] at hj; exact h.rst j z v hjk hj
 ·refine ⟨hgr.os.trans h.frame.os, hgr.tape.trans h.frame.tape, hgr.output.trans h.frame.output, Nat.le_trans h.frame.size hgr.size, fun b hb hne => ?_⟩
  refine (hgr.block b (Nat.lt_of_lt_of_le hb h.frame.size) (fun e => ?_)).trans (h.frame.block b hb hne)
  rcases h.rfr k _ _ u b hu e.symm with h1 | h1
  ·omega
  ·exact hne h1.2.2
 ·obtain ⟨c0, T, h1, h2⟩ := h.bt j g hj hg
  exact ⟨c0, T, (hgr.block g (h.glt hg) (fun e => h.gr j g k _ _ u hg hu e.symm)).trans h1, h2⟩
theorem St.rowTurn (h : St w0 okA ext N s a w E) {k : Nat} {r r' : Row} {u u' : Value} {vs' : List Value} (hz0 : 0 < r.z) (hr : s.rw k = some r) (hu : E.rm k = some (r.ver, r.z, u))
  (hz : r'.z = r.z) (hv : r.ver ≤ r'.ver) (hvu : r.ver = r'.ver → u = u') (hok : rowOk r'.z r'.es)
  (hgr : w.grownBy w' (blkV u)) (hown : w'.ownsRow 0 r'.E r'.z u' r'.es.length vs') (hrel : RRel w (okE w0 okA E) w0.heap.size r'.es.flatten vs') (hat : (blkV u') = (blkV u) ∨ (blkV u') = some w.heap.size) :
  St w0 okA ext N { s with rw := upd s.rw k (some r') } a w' ⟨E.gm, upd E.rm k (some (r'.ver, r'.z, u'))⟩ :=
 h.rowTurnG hr hu hz hv (fun e => by omega) (fun e => e.elim hvu (fun e => by omega)) (.of (by omega) hok) hgr (.inl ⟨by omega, hown⟩) hrel (hat.imp_right .inl)
/-- A nil slice in a slot becomes a row of the call's own. -/
theorem St.own (h : St w0 okA ext N s a w E) {k z c : Nat} {E0 : TypeId} (hz : 0 < z) (hk : s.tm k = .one (.g (.slice none 0 c))) (hc : c = 0) (hr : s.rw k = none) :
  St w0 okA ext N { s with tm := upd s.tm k (.one (.ow k 0)), rw := upd s.rw k (some ⟨0, E0, z, []⟩) } a w ⟨E.gm, upd E.rm k (some (0, z, .slice none 0 0))⟩ := by
 subst hc
 have hEk : E.rm k = none := h.rwn k hr
 have hle : EnvLe E ⟨E.gm, upd E.rm k (some (0, z, .slice none 0 0))⟩ := ⟨fun _ _ h => h, fun j ver z v hj => by
  have e : j ≠ k := by rintro rfl; rw [hEk] at hj; cases hj
  exact ⟨ver, v, by simp only [upd_ne _ _ e]; exact hj, Nat.le_refl _, fun _ => rfl⟩⟩
 have hrow : ∀ {j ver z' v}, (upd E.rm k (some (0, z, Value.slice none 0 0))) j = some (ver, z', v) → ((blkV v) = none) ∨ (j ≠ k ∧ E.rm j = some (ver, z', v)) := fun {j ver z' v} hj => by
  by_cases e : j = k
  ·subst e; simp only [upd_same, Option.some.injEq, Prod.mk.injEq] at hj; exact .inl (by rw [← hj.2.2]; rfl)
  ·simp only [upd_ne _ _ e] at hj; exact .inr ⟨e, hj⟩
 have hokb : ∀ b, b < w.heap.size → okE w0 okA E b → okE w0 okA ⟨E.gm, upd E.rm k (some (0, z, .slice none 0 0))⟩ b := fun b _ ho =>
  ⟨ho.1, fun j ver z' v hj => by
   rcases hrow hj with h1 | ⟨_, h1⟩
   ·rw [h1]; simp
   ·exact ho.2.1 j ver z' v h1, ho.2.2⟩
 have hmv : ∀ t, VRel w (okE w0 okA ⟨E.gm, upd E.rm k (some (0, z, .slice none 0 0))⟩) w0.heap.size ⟨E.gm, upd E.rm k (some (0, z, .slice none 0 0))⟩ (s.tm t) (a.tmps.getD t undef) :=
  fun t => (h.tm t).move (.refl _ w) hokb (Nat.le_refl _) hle
 refine ⟨h.size, h.defers, fun t => ?_, fun j cs hj => ?_, h.bxn, fun j q hq => ?_, fun j hj => ?_, h.ginj, fun j g j' ver z v hj hv' => ?_, fun j ver z v j' ver' z' v' b hj hj' hb hb' => ?_, h.gfr, h.gx, h.nx, fun j ver z' v b hj hb => ?_, fun j z' v hjk hj => ?_, h.frame, h.bt⟩
 ·by_cases e : t = k
  ·subst e
   simp only [upd_same]
   have h1 := h.tm t
   rw [hk] at h1
   cases h1 with
   | one h2 =>
    obtain ⟨h3, _⟩ := h2
    rw [h3]
    exact .one ⟨rfl, 0, z, .slice none 0 0, by simp [upd_same], Nat.le_refl _, fun _ => rfl, hz⟩
  ·simp only [upd_ne _ _ e]; exact hmv t
 ·obtain ⟨g, c0, ty', h1, h2, h3⟩ := h.bx j cs hj
  exact ⟨g, c0, ty', h1, h2, h3.move (.refl _ w) hokb (Nat.le_refl _) hle⟩
 ·by_cases e : j = k
  ·subst e; simp only [upd_same, Option.some.injEq] at hq; subst hq
   exact ⟨fun h0 => by simp only at h0; omega, .of hz (fun e he => by simp at he), .slice none 0 0, [], by simp [upd_same], .inl ⟨hz, World.ownsRow_nil _ _ _ _⟩, .nil⟩
  ·simp only [upd_ne _ _ e] at hq
   obtain ⟨h1, h2, v, vs, h3, h4, h5⟩ := h.rw j q hq
   exact ⟨h1, h2, v, vs, by simp only [upd_ne _ _ e]; exact h3, h4, h5.move (.refl _ w) hokb (Nat.le_refl _)⟩
 ·by_cases e : j = k
  ·subst e; simp [upd_same] at hj
  ·simp only [upd_ne _ _ e] at hj ⊢; exact h.rwn j hj
 ·rcases hrow hv' with h1 | ⟨_, h1⟩
  ·rw [h1]; simp
  ·exact h.gr j g j' ver z v hj h1
 ·rcases hrow hj with h1 | ⟨_, h1⟩
  ·rw [h1] at hb; cases hb
  ·rcases hrow hj' with h2 | ⟨_, h2⟩
   ·rw [h2] at hb'; cases hb'
   ·exact h.rr j _ _ v j' _ _ v' b h1 h2 hb hb'
 ·rcases hrow hj with h1 | ⟨_, h1⟩
  ·rw [h1] at hb; cases hb
  ·exact h.rfr j ver z' v b h1 hb
 ·by_cases e : j = k
  ·subst e
   have hkN : j < N := by
    apply Classical.byContradiction
    intro hno
    have h1 := h.tm j
    rw [hk] at h1
    have h2 : a.tmps.getD j undef = undef := by rw [Array.getD_eq_getD_getElem?, Array.getElem?_eq_none (by rw [h.size]; omega)]; rfl
    rw [h2] at h1
    cases h1 with
    | one h3 => exact absurd h3.1 (by intro e; cases e)
   have := h.nx
   simp only [XK] at hjk
   omega
  ·simp only [upd_ne _ _ e] at hj; exact h.rst j z' v hjk hj
/-- A nil slice. -/
def nilC : Cel → Bool
 | .g (.slice none 0 0) => true
 | _ => false
theorem nilC_is {c : Cel} (h : nilC c = true) : c = .g (.slice none 0 0) := by
 unfold nilC at h
 split at h
 ·rfl
 ·cases h
theorem wr_len1 {α : Type} (cs : List α) (off : Nat) (x : α) (h : off < cs.length) : (wr cs off [x]).length = cs.length := by
 unfold wr; simp; omega
theorem wr_one {α : Type} (cs : List α) (off : Nat) (x : α) (h : off < cs.length) (i : Nat) : (wr cs off [x])[i]? = if i = off then some x else cs[i]? := by
 unfold wr
 by_cases h1 : i < off
 ·rw [List.append_assoc, List.getElem?_append_left (by rw [List.length_take]; omega), List.getElem?_take_of_lt h1, if_neg (by omega)]
 ·by_cases h2 : i = off
  ·subst h2
   rw [List.append_assoc, List.getElem?_append_right (by rw [List.length_take]; omega), List.length_take, show i - min i cs.length = 0 by omega, if_pos rfl]; rfl
  ·rw [List.getElem?_append_right (by rw [List.length_append, List.length_take]; simp; omega), List.length_append, List.length_take, List.length_singleton, List.getElem?_drop, show off + 1 + (i - (min off cs.length + 1)) = i by omega, if_neg h2]
/-- A nil slice in a box becomes a row of the call's own. -/
theorem St.ownBox (h : St w0 okA ext N s a w E) {k0 off k z : Nat} {cs : List Cel} {E0 : TypeId} (hz : 0 < z) (hk : s.bx k0 = some cs) (hnil : cs[off]?.map nilC = some true) (hkx : k < XK) (hr : s.rw k = none) :
  St w0 okA ext N { s with bx := upd s.bx k0 (some (wr cs off [.ow k 0])), rw := upd s.rw k (some ⟨0, E0, z, []⟩) } a w ⟨E.gm, upd E.rm k (some (0, z, .slice none 0 0))⟩ := by
 have hEk : E.rm k = none := h.rwn k hr
 have hle : EnvLe E ⟨E.gm, upd E.rm k (some (0, z, .slice none 0 0))⟩ := ⟨fun _ _ h => h, fun j ver z v hj => by
  have e : j ≠ k := by rintro rfl; rw [hEk] at hj; cases hj
  exact ⟨ver, v, by simp only [upd_ne _ _ e]; exact hj, Nat.le_refl _, fun _ => rfl⟩⟩
 have hrow : ∀ {j ver z' v}, (upd E.rm k (some (0, z, Value.slice none 0 0))) j = some (ver, z', v) → ((blkV v) = none) ∨ (j ≠ k ∧ E.rm j = some (ver, z', v)) := fun {j ver z' v} hj => by
  by_cases e : j = k
  ·subst e; simp only [upd_same, Option.some.injEq, Prod.mk.injEq] at hj; exact .inl (by rw [← hj.2.2]; rfl)
  ·simp only [upd_ne _ _ e] at hj; exact .inr ⟨e, hj⟩
 have hokb : ∀ b, b < w.heap.size → okE w0 okA E b → okE w0 okA ⟨E.gm, upd E.rm k (some (0, z, .slice none 0 0))⟩ b := fun b _ ho =>
  ⟨ho.1, fun j ver z' v hj => by
   rcases hrow hj with h1 | ⟨_, h1⟩
   ·rw [h1]; simp
   ·exact ho.2.1 j ver z' v h1, ho.2.2⟩
 have hmv : ∀ t, VRel w (okE w0 okA ⟨E.gm, upd E.rm k (some (0, z, .slice none 0 0))⟩) w0.heap.size ⟨E.gm, upd E.rm k (some (0, z, .slice none 0 0))⟩ (s.tm t) (a.tmps.getD t undef) :=
  fun t => (h.tm t).move (.refl _ w) hokb (Nat.le_refl _) hle
 refine ⟨h.size, h.defers, fun t => ?_, fun j cs' hj => ?_, fun j hj => ?_, fun j q hq => ?_, fun j hj => ?_, h.ginj, fun j g j' ver z v hj hv' => ?_, fun j ver z v j' ver' z' v' b hj hj' hb hb' => ?_, h.gfr, h.gx, h.nx, fun j ver z' v b hj hb => ?_, fun j z' v hjk hj => ?_, h.frame, h.bt⟩
 ·exact hmv t
 ·by_cases e : j = k0
  ·subst e
   simp only [upd_same, Option.some.injEq] at hj; subst hj
   obtain ⟨g, c0, ty', h1, h2, h3⟩ := h.bx j _ hk
   have h4 := h3.move (.refl _ w) hokb (Nat.le_refl _) hle
   have hlt : off < cs.length := by
    rcases Nat.lt_or_ge off cs.length with h | h
    ·exact h
    ·rw [List.getElem?_eq_none h] at hnil; cases hnil
   have hc : cs[off]? = some (.g (.slice none 0 0)) := by
    rw [List.getElem?_eq_getElem hlt] at hnil ⊢
    simp only [Option.map_some, Option.some.injEq] at hnil
    rw [nilC_is hnil]
   refine ⟨g, c0, ty', h1, h2, ?_, fun i c u hi hu => ?_⟩
   ·rw [wr_len1 _ _ _ hlt]; exact h4.1
   ·rw [wr_one _ _ _ hlt] at hi
    by_cases e : i = off
    ·subst e
     rw [if_pos rfl] at hi
     injection hi with hi; subst hi
     obtain ⟨rfl, _⟩ := h4.2 i _ u hc hu
     exact ⟨rfl, 0, z, .slice none 0 0, by simp [upd_same], Nat.le_refl _, fun _ => rfl, hz⟩
    ·rw [if_neg e] at hi
     exact h4.2 i c u hi hu
  ·simp only [upd_ne _ _ e] at hj
   obtain ⟨g, c0, ty', h1, h2, h3⟩ := h.bx j cs' hj
   exact ⟨g, c0, ty', h1, h2, h3.move (.refl _ w) hokb (Nat.le_refl _) hle⟩
 ·by_cases e : j = k0
  ·subst e; simp [upd_same] at hj
  ·simp only [upd_ne _ _ e] at hj; exact h.bxn j hj
 ·by_cases e : j = k
  ·subst e; simp only [upd_same, Option.some.injEq] at hq; subst hq
   exact ⟨fun h0 => by simp only at h0; omega, .of hz (fun e he => by simp at he), .slice none 0 0, [], by simp [upd_same], .inl ⟨hz, World.ownsRow_nil _ _ _ _⟩, .nil⟩
  ·simp only [upd_ne _ _ e] at hq
   obtain ⟨h1, h2, v, vs, h3, h4, h5⟩ := h.rw j q hq
   exact ⟨h1, h2, v, vs, by simp only [upd_ne _ _ e]; exact h3, h4, h5.move (.refl _ w) hokb (Nat.le_refl _)⟩
 ·by_cases e : j = k
  ·subst e; simp [upd_same] at hj
  ·simp only [upd_ne _ _ e] at hj ⊢; exact h.rwn j hj
 ·rcases hrow hv' with h1 | ⟨_, h1⟩
  ·rw [h1]; simp
  ·exact h.gr j g j' ver z v hj h1
 ·rcases hrow hj with h1 | ⟨_, h1⟩
  ·rw [h1] at hb; cases hb
  ·rcases hrow hj' with h2 | ⟨_, h2⟩
   ·rw [h2] at hb'; cases hb'
   ·exact h.rr j _ _ v j' _ _ v' b h1 h2 hb hb'
 ·rcases hrow hj with h1 | ⟨_, h1⟩
  ·rw [h1] at hb; cases hb
  ·exact h.rfr j ver z' v b h1 hb
 ·by_cases e : j = k
  ·subst e; omega
  ·simp only [upd_ne _ _ e] at hj; exact h.rst j z' v hjk hj
end
end Go.Ai
namespace Go.Ai
open Go
set_option linter.unusedSimpArgs false
set_option linter.unusedVariables false
theorem tabO_filterMap {α β : Type} (f : Nat → Option α) (g : Nat → α → β) : ∀ (ks : List Nat) (k : Nat),
  tabO (ks.filterMap fun j => (f j).map fun x => (j, g j x)) k = if k ∈ ks then (f k).map (g k) else none
 | [], k => by simp [tabO]
 | j :: ks, k => by
  have ih := tabO_filterMap f g ks k
  simp only [List.filterMap_cons]
  cases hj : f j with
  | none =>
   simp only [Option.map_none, ih, List.mem_cons]
   by_cases e : k = j
   ·subst e; simp [hj]
   ·simp [e]
  | some x =>
   simp only [Option.map_some, tabO, ih, List.mem_cons]
   by_cases e : k = j
   ·subst e; simp [hj]
   ·simp [e]
section
variable {w0 w w' : World} {okA : Nat → Prop} {ext : Ext} {N : Nat} {s : AS} {a : Act} {E : Env}
def Env.keep (E : Env) (K : Kp) : Env := ⟨fun k => if k ∈ K.bs then E.gm k else Option.none, fun k => if k ∈ K.rs then (E.rm k).map (fun x => (K.q k x.1, x.2)) else Option.none⟩
theorem okE_keep {b : Nat} (K : Kp) (h : okE w0 okA E b) : okE w0 okA (E.keep K) b := by
 refine ⟨fun k => ?_, fun k ver z u hr => ?_, h.2.2⟩
 ·simp only [Env.keep]; split
  ·exact h.1 k
  ·simp
 ·simp only [Env.keep] at hr
  split at hr
  ·cases hk : E.rm k with
   | none => rw [hk] at hr; simp at hr
   | some x => obtain ⟨x1, x2, x3⟩ := x; rw [hk] at hr; simp at hr; obtain ⟨_, _, rfl⟩ := hr; exact h.2.1 k x1 x2 x3 hk
  ·cases hr
theorem add_none (g o n : Nat) : ((⟨g, o, none⟩ : Addr).add n) = ⟨g, o + n, none⟩ := by
 unfold Addr.add; split
 ·rename_i h; subst h; rfl
 ·rfl
theorem flatten_at {z : Nat} : ∀ {es : List (List Cel)}, (∀ e ∈ es, e.length = z) → ∀ {i j : Nat} {e : List Cel} {x : Cel}, es[i]? = some e → e[j]? = some x → es.flatten[i * z + j]? = some x
 | [], _, i, j, e, x, he, _ => by simp at he
 | e0 :: es, hz, 0, j, e, x, he, hx => by
  simp at he; subst he
  have hlt : j < e0.length := (List.getElem?_eq_some_iff.1 hx).1
  rw [List.flatten_cons, Nat.zero_mul, Nat.zero_add, List.getElem?_append, if_pos hlt]; exact hx
 | e0 :: es, hz, i + 1, j, e, x, he, hx => by
  simp at he
  have h0 : e0.length = z := hz e0 (by simp)
  have ih := flatten_at (es := es) (fun e h => hz e (by simp [h])) he hx
  have hge : ¬ (i + 1) * z + j < e0.length := by rw [h0, Nat.add_mul]; omega
  rw [List.flatten_cons, List.getElem?_append, if_neg hge, h0]
  rw [show (i + 1) * z + j - z = i * z + j by rw [Nat.add_mul]; omega]
  exact ih
theorem vs_at {z n : Nat} {es : List (List Cel)} {vs : List Value} {base : Nat} {ok : Nat → Prop} (hz : rowOk z es) (hrel : RRel w ok base es.flatten vs) {i j : Nat} {e : List Cel} {x : Cel} (he : es[i]? = some e) (hx : e[j]? = some x) :
  vs[i * z + j]? = some (vs.getD (i * z + j) undef) ∧ x.isD = true ∧ CRel0 w ok base Env.none x (vs.getD (i * z + j) undef) := by
 have h1 := flatten_at hz he hx
 obtain ⟨u, h2, h3, h4⟩ := hrel.at_ h1
 rw [List.getD_eq_getElem?_getD, h2]
 exact ⟨rfl, h3, h4⟩
/-- A data cell, as data. -/
theorem CRel0.toDR {c : Cel} {v : Value} {ok ok' : Nat → Prop} {base : Nat} {E' : Env} (hd : c.isD = true) (h : CRel0 w ok base E' c v) (hok : ∀ b, ok b → ok' b) : DRel w ok' c v := by
 cases c with
 | g u => obtain ⟨rfl, h⟩ := h; exact .g h
 | any => exact .any h
 | sl fr z es =>
  cases fr with
  | false => exact DRel.keep h (.refl _ w) (fun b _ ho => hok b ho)
  | true => exact DRel.keep (ok := fun b => base ≤ b ∧ ok b) h (.refl _ w) (fun b _ ho => hok b ho.2)
 | fm kc es => exact DRel.keep h (.refl _ w) (fun b _ ho => hok b ho)
 | ep cs =>
  obtain ⟨b, off, us, rfl, ho, hlt, hc⟩ := h
  exact .ep us (hok _ ho) hlt (fun j x hx => (hc j x hx).1) (fun j x hx => (hc j x hx).2.keep (.refl _ w) (fun b _ ho => hok b ho))
 | _ => simp [Cel.isD] at hd
theorem CRel0.toFR {c : Cel} {v : Value} {ok : Nat → Prop} {base : Nat} {E' : Env} (hd : freshC c = true) (h : CRel0 w ok base E' c v) : DRel w (fun b => base ≤ b ∧ ok b) c v := by
 cases c with
 | g u => obtain ⟨rfl, h⟩ := h; exact .g h
 | any => exact .any h
 | sl fr z es =>
  cases fr with
  | false => simp [freshC] at hd
  | true => exact h
 | _ => simp [freshC] at hd
/-- A row of the call's own reads as data, wherever its block may be looked at. -/
theorem row_at {base n : Nat} {E0 : TypeId} {z : Nat} {u : Value} {es : List (List Cel)} {vs : List Value} {fr : Bool} {ok : Nat → Prop} (hz : rowOk z es) (hown : w.ownsRow base E0 z u n vs) (hn : n = es.length) (hl : vs.length = es.flatten.length)
  (hrel : ∀ i j e x, es[i]? = some e → e[j]? = some x → DRel w ok x (vs.getD (i * z + j) undef))
  (hok : ∀ b, (blkV u) = some b → ok b) : DRel w ok (.sl fr z es) u := by
 subst hn
 rcases hown.2 with ⟨rfl, h0⟩ | ⟨g, cap, cur, rfl, hb, hg, hnc, hcm, hcs, htake⟩
 ·have : es = [] := List.eq_nil_of_length_eq_zero h0
  subst this; exact .nil
 ·have hlt : g < w.heap.size := by
   rcases Nat.lt_or_ge g w.heap.size with hl | hl
   ·exact hl
   ·rw [Array.getElem?_eq_none hl] at hg; cases hg
  refine .sl (fun i j => vs.getD (i * z + j) undef) rfl hnc (hok g rfl) hlt hz (fun i e j x he hx => ?_) (fun i e j x he hx => hrel i j e x he hx)
  have h1 := flatten_at hz he hx
  have h2 : i * z + j < vs.length := by rw [hl]; exact (List.getElem?_eq_some_iff.1 h1).1
  have h3 := hown.cells (g := g) rfl _ _ (List.getElem?_eq_getElem h2)
  rw [add_none, ← Nat.add_assoc] at h3
  rw [h3, List.getD_eq_getElem?_getD, List.getElem?_eq_getElem h2]; rfl
theorem row_data {base n : Nat} {E0 : TypeId} {z : Nat} {u : Value} {es : List (List Cel)} {vs : List Value} {fr : Bool} {ok ok0 : Nat → Prop} {base0 : Nat} (hz : rowOk z es) (hown : w.ownsRow base E0 z u n vs) (hn : n = es.length) (hrel : RRel w ok0 base0 es.flatten vs) (hle : ∀ b, ok0 b → ok b)
  (hok : ∀ b, (blkV u) = some b → ok b) : DRel w ok (.sl fr z es) u :=
 row_at hz hown hn hrel.1.symm (fun i j e x he hx => by
  obtain ⟨_, h2, h3⟩ := vs_at (n := n) hz hrel he hx
  exact h3.toDR h2 hle) hok
/-- A row as a slice: fresh if all its cells are. -/
theorem row_sl {base n : Nat} {E0 : TypeId} {z : Nat} {u : Value} {es : List (List Cel)} {vs : List Value} {ok : Nat → Prop} {base0 : Nat} {E' : Env} (hz : rowOk z es) (hown : w.ownsRow base E0 z u n vs) (hn : n = es.length) (hrel : RRel w ok base0 es.flatten vs)
  (hok : ∀ b, (blkV u) = some b → base0 ≤ b ∧ ok b) : CRel0 w ok base0 E' (.sl (frE es) z es) u := by
 show DRel w (if frE es = true then (fun b => base0 ≤ b ∧ ok b) else ok) (.sl (frE es) z es) u
 cases hf : frE es with
 | false => exact row_data hz hown hn hrel (fun b h => h) (fun b hb => (hok b hb).2)
 | true =>
  refine row_at hz hown hn hrel.1.symm (fun i j e x he hx => ?_) hok
  obtain ⟨_, h2, h3⟩ := vs_at (n := n) hz hrel he hx
  have h4 : freshC x = true := List.all_eq_true.1 (List.all_eq_true.1 hf e (List.mem_of_getElem? he)) x (List.mem_of_getElem? hx)
  exact h3.toFR h4
/-- A map of the call's own as one that nobody writes any more. -/
theorem row_fm {n c : Nat} {u : Value} {es : List (List Cel)} {vs : List Value} {ok ok0 : Nat → Prop} {base0 : Nat} (hz : mapOk es) (hown : owns w 0 c 0 u n vs) (hn : n = es.length) (hrel : RRel w ok0 base0 es.flatten vs) (hle : ∀ b, ok0 b → ok b)
  (hok : ∀ b, (blkV u) = some b → ok b) : DRel w ok (.fm c es) u := by
 rcases hown with ⟨h0, _⟩ | ⟨_, b, ms, clock, rfl, _, hg, ⟨hsz, hstp⟩, rfl, hk⟩
 ·omega
 ·subst hn
  have hlt : b < w.heap.size := (Array.getElem?_eq_some_iff.1 hg).1
  have hsh : ∀ (i : Nat) (e : MapEntry), ms.toList[i]? = some e → ∃ k0 c0, es[i]? = some [.g k0, c0] := fun i e he => by
   have hi : i < es.length := by rw [← hsz, ← Array.length_toList]; exact (List.getElem?_eq_some_iff.1 he).1
   obtain ⟨k0, c0, h1⟩ := hz es[i] (List.getElem_mem hi)
   exact ⟨k0, c0, by rw [List.getElem?_eq_getElem hi, h1]⟩
  have hval : ∀ (ms : List MapEntry) (i : Nat) (e : MapEntry), ms[i]? = some e → ((ms.map fun e => [e.key, encV e.val]).flatten)[i * 2]? = some e.key ∧ ((ms.map fun e => [e.key, encV e.val]).flatten)[i * 2 + 1]? = some (encV e.val) := fun ms => by
   induction ms with
   | nil => intro i e h; simp at h
   | cons m ms ih =>
    intro i e h
    match i with
    | 0 => simp at h; subst h; simp
    | i + 1 =>
     simp at h
     have := ih i e h
     rw [show (i + 1) * 2 = i * 2 + 2 by omega, show i * 2 + 2 + 1 = i * 2 + 1 + 2 by omega]
     simpa using this
  have hes : rowOk 2 es := fun e he => by obtain ⟨k0, c0, rfl⟩ := hz e he; rfl
  have hat : ∀ (i : Nat) (e : MapEntry), ms.toList[i]? = some e → ∃ c0, es[i]? = some [.g e.key, c0] ∧ c0.isD = true ∧ CRel0 w ok0 base0 Env.none c0 (encV e.val) := fun i e he => by
   obtain ⟨k0, c0, h1⟩ := hsh i e he
   obtain ⟨h2, h3⟩ := hval ms.toList i e he
   obtain ⟨h4, _, h5⟩ := vs_at (n := 0) hes hrel h1 (j := 0) rfl
   obtain ⟨h6, h7, h8⟩ := vs_at (n := 0) hes hrel h1 (j := 1) rfl
   rw [Nat.add_zero, h2] at h4
   rw [h3] at h6
   injection h4 with h4
   injection h6 with h6
   rw [Nat.add_zero, ← h4] at h5
   rw [← h6] at h8
   obtain ⟨rfl, _⟩ := h5
   exact ⟨c0, h1, h7, h8⟩
  refine .fm (fun i => (es.getD i []).getD 1 .any) (hok b rfl) hlt hg ⟨hsz.symm, hstp⟩ (fun i e he => ?_) (fun i e he => ?_)
  ·obtain ⟨c0, h1, _, _⟩ := hat i e he
   have h9 : (es.getD i []).getD 1 .any = c0 := by simp [List.getD_eq_getElem?_getD, h1]
   exact ⟨(hk e (List.mem_of_getElem? he)).1, by rw [h9]; exact h1, (hk e (List.mem_of_getElem? he)).2⟩
  ·obtain ⟨c0, h1, h2, h3⟩ := hat i e he
   have h9 : (es.getD i []).getD 1 .any = c0 := by simp [List.getD_eq_getElem?_getD, h1]
   rw [h9]
   exact h3.toDR h2 hle
/-- A box of the call's own, as data. -/
theorem box_ep (h : St w0 okA ext N s a w E) {k g off : Nat} {cs : List Cel} {ok' : Nat → Prop} {base : Nat} {E' : Env} (hs : s.bx k = some cs) (hg : E.gm k = some g) (hok : ∀ b, okE w0 okA E b → ok' b) (hb : ok' g) :
  CRel0 w ok' base E' (.ep ((cs.drop off).map frzC)) (.pointer (some ⟨g, off, none⟩)) := by
 obtain ⟨g', cur, ty, h1, h2, h3⟩ := h.bx k cs hs
 rw [hg] at h1; injection h1 with h1; subst h1
 refine ⟨g, off, fun j => (cur.toList[off + j]?).getD undef, rfl, hb, h.glt hg, fun j x hx => ?_⟩
 rw [List.getElem?_map, List.getElem?_drop] at hx
 cases hc : cs[off + j]? with
 | none => rw [hc] at hx; cases hx
 | some c =>
  rw [hc] at hx; simp at hx; subst hx
  obtain ⟨u, h4, hr⟩ := h3.at_ hc
  refine ⟨?_, ?_⟩
  ·rw [cell_of_row w g (off + j) cur ty (0, 0) h2, ← Array.getElem?_toList, h4]; simp only [h4, Option.getD_some]
  ·simp only [h4, Option.getD_some]
   have hone := hr.oneC
   cases c with
   | g u => exact CRel0.toDR (c := .g u) (base := w0.heap.size) (E' := E) rfl hr hok
   | sl fr z es => exact CRel0.toDR (c := .sl fr z es) (base := w0.heap.size) (E' := E) rfl hr hok
   | fm kc es => exact CRel0.toDR (c := .fm kc es) (base := w0.heap.size) (E' := E) rfl hr hok
   | ep ds => exact CRel0.toDR (c := .ep ds) (base := w0.heap.size) (E' := E) rfl hr hok
   | _ => exact .any hone
theorem ren_rel0 (h : St w0 okA ext N s a w E) (K : Kp) {c : Cel} {v : Value} (hc : CRel0 w (okE w0 okA E) w0.heap.size E c v) :
  CRel0 w (okE w0 okA (E.keep K)) w0.heap.size (E.keep K) (s.renC K c) v := by
 have hk : Keeps (okE w0 okA E) w w := .refl _ w
 cases c with
 | g u => exact hc
 | sl fr z es =>
  cases fr with
  | false => exact DRel.keep hc hk (fun b _ ho => okE_keep K ho)
  | true => exact DRel.keep (ok' := fun b => w0.heap.size ≤ b ∧ okE w0 okA (E.keep K) b) hc (.refl _ w) (fun b _ ho => ⟨ho.1, okE_keep K ho.2⟩)
 | ep cs =>
  obtain ⟨b, off, us, rfl, ho, hlt, hcs⟩ := hc
  exact ⟨b, off, us, rfl, okE_keep K ho, hlt, fun j x hx => ⟨(hcs j x hx).1, (hcs j x hx).2.keep hk (fun b _ ho => okE_keep K ho)⟩⟩
 | bx k off =>
  simp only [AS.renC]
  split
  ·obtain ⟨g, hg, rfl⟩ := hc
   rename_i hin
   exact ⟨g, by simp [Env.keep, hin, hg], rfl⟩
  ·obtain ⟨g, hg, rfl⟩ := hc
   rename_i hin
   cases hs : s.bx k with
   | none => rfl
   | some cs =>
    simp only []
    split
    ·rename_i hxk
     refine box_ep h hs hg (fun b ho => okE_keep K ho) ⟨fun j => ?_, fun j ver z u hj => ?_, ?_⟩
     ·simp only [Env.keep]; split
      ·rename_i hj
       intro hj'
       have := h.ginj j k g hj' hg
       subst this; exact hin hj
      ·simp
     ·simp only [Env.keep] at hj
      split at hj
      ·cases hk : E.rm j with
       | none => rw [hk] at hj; simp at hj
       | some x =>
        obtain ⟨x1, x2, x3⟩ := x
        rw [hk] at hj; simp at hj; obtain ⟨_, _, rfl⟩ := hj
        exact h.gr k g j x1 x2 x3 hg hk
      ·cases hj
     ·rcases h.gfr k g hg with h1 | h1
      ·exact .inl h1
      ·have := h1.2; omega
    ·rfl
 | ow k ver =>
  simp only [AS.renC]
  obtain ⟨h1, ver', z, u, hr, hle, hv, hzp⟩ := hc
  cases hs : s.rw k with
  | none => exact h1
  | some r =>
   simp only []
   split
   ·rename_i hver
    obtain ⟨_, hro, u', vs, hu', hown, hrel⟩ := h.rwS hs (h.zpos hs hr hzp)
    have hr2 := hr
    rw [hr] at hu'
    simp only [Option.some.injEq, Prod.mk.injEq] at hu'
    obtain ⟨rfl, rfl, rfl⟩ := hu'
    split
    ·rename_i hin
     exact ⟨h1, K.q k r.ver, r.z, u, by simp [Env.keep, hin, hr], by rw [hver]; exact Nat.le_refl _, fun _ => hv hver, hzp⟩
    ·rename_i hin
     split
     ·rename_i hxk
      rw [hv hver]
      have hdrop : ∀ b, (blkV u) = some b → w0.heap.size ≤ b ∧ okE w0 okA (E.keep K) b := fun b hb => by
       have hb0 : w0.heap.size ≤ b := by
        rcases h.rfr k _ _ u b hr2 hb with h2 | h2
        ·exact h2
        ·have := h2.1; omega
       refine ⟨hb0, fun j => ?_, fun j ver' z' u' hj => ?_, .inl hb0⟩
       ·simp only [Env.keep]; split
        ·exact fun hj => h.gr j b k _ _ u hj hr2 hb
        ·simp
       ·simp only [Env.keep] at hj
        split at hj
        ·rename_i hin'
         cases hk : E.rm j with
         | none => rw [hk] at hj; simp at hj
         | some x =>
          obtain ⟨x1, x2, x3⟩ := x
          rw [hk] at hj; simp at hj; obtain ⟨_, _, rfl⟩ := hj
          intro hb'
          have := h.rr j x1 x2 x3 k _ _ u b hk hr2 hb' hb
          subst this; exact hin hin'
        ·cases hj
      have hrel' : RRel w (okE w0 okA (E.keep K)) w0.heap.size r.es.flatten vs := hrel.move (.refl _ w) (fun b _ ho => okE_keep K ho) (Nat.le_refl _)
      exact row_sl hro hown rfl hrel' hdrop
     ·exact h1
   ·exact h1
 | op k ver i off =>
  simp only [AS.renC]
  split
  ·rename_i hin
   obtain ⟨h1, ver', z, u, hr, hle, hv, hzp⟩ := hc
   cases hs : s.rw k with
   | none => exact h1
   | some r =>
    simp only []
    split
    ·rename_i hver
     obtain ⟨_, _, u', _, hu', _⟩ := h.rw k r hs
     rw [hr] at hu'
     simp only [Option.some.injEq, Prod.mk.injEq] at hu'
     obtain ⟨rfl, rfl, rfl⟩ := hu'
     exact ⟨h1, K.q k r.ver, r.z, u, by simp [Env.keep, hin, hr], by rw [hver]; exact Nat.le_refl _, fun _ => hv hver, hzp⟩
    ·exact h1
  ·exact hc.1
 | mp k =>
  simp only [AS.renC]
  obtain ⟨h1, ver', u, hr, hv⟩ := hc
  split
  ·rename_i hin
   exact ⟨h1, K.q k ver', u, by simp [Env.keep, hin, hr], hv⟩
  ·rename_i hin
   cases hs : s.rw k with
   | none => exact h1
   | some r =>
    simp only []
    split
    ·rename_i hxk
     subst hv
     obtain ⟨_, hro, u', vs, hu', hown, hrel⟩ := h.rw k r hs
     have hr2 := hr
     rw [hr] at hu'
     simp only [Option.some.injEq, Prod.mk.injEq] at hu'
     obtain ⟨rfl, hz0, rfl⟩ := hu'
     rw [← hz0] at hown
     refine row_fm (hro.2 hz0.symm) hown rfl hrel (fun b ho => okE_keep K ho) (fun b hb => ?_)
     have hb0 : w0.heap.size ≤ b := by
      rcases h.rfr k _ _ _ b hr2 hb with h2 | h2
      ·exact h2
      ·have := h2.1; omega
     refine ⟨fun j => ?_, fun j ver' z' u' hj => ?_, .inl hb0⟩
     ·simp only [Env.keep]; split
      ·exact fun hj => h.gr j b k _ _ _ hj hr2 hb
      ·simp
     ·simp only [Env.keep] at hj
      split at hj
      ·rename_i hin'
       cases hk : E.rm j with
       | none => rw [hk] at hj; simp at hj
       | some x =>
        obtain ⟨x1, x2, x3⟩ := x
        rw [hk] at hj; simp at hj; obtain ⟨_, _, rfl⟩ := hj
        intro hb'
        have := h.rr j x1 x2 x3 k _ _ _ b hk hr2 hb' hb
        subst this; exact hin hin'
      ·cases hj
    ·exact h1
 | fm kc es => exact DRel.keep hc hk (fun b _ ho => okE_keep K ho)
 | ws k ver lo hi => exact hc.1
 | os k ver lo =>
  simp only [AS.renC]
  split
  ·rename_i hin
   obtain ⟨h1, ver', z, u, hr, hle, hv, hzp⟩ := hc
   cases hs : s.rw k with
   | none => exact h1
   | some r =>
    simp only []
    split
    ·rename_i hver
     obtain ⟨_, _, u', _, hu', _⟩ := h.rw k r hs
     rw [hr] at hu'
     simp only [Option.some.injEq, Prod.mk.injEq] at hu'
     obtain ⟨rfl, rfl, rfl⟩ := hu'
     exact ⟨h1, K.q k r.ver, r.z, u, by simp [Env.keep, hin, hr], by rw [hver]; exact Nat.le_refl _, fun _ => hv hver, hzp⟩
    ·exact h1
  ·exact hc.1
 | fn f caps => exact hc.elim
 | mv f caps => exact hc.elim
 | any => exact hc
theorem ren_rel (h : St w0 okA ext N s a w E) (K : Kp) {c : Cel} {v : Value} (hc : CRel w (okE w0 okA E) w0.heap.size E c v) :
  CRel w (okE w0 okA (E.keep K)) w0.heap.size (E.keep K) (s.renC K c) v := by
 have key : ∀ {c}, CRel0 w (okE w0 okA (E.keep K)) w0.heap.size (E.keep K) c v → CRel w (okE w0 okA (E.keep K)) w0.heap.size (E.keep K) c v := fun {c} h => by
  cases c <;> first | exact h | exact h.elim
 cases c with
 | fn f caps =>
  simp only [AS.renC]
  split
  ·rename_i hall
   obtain ⟨us, rfl, hl, hcs⟩ := hc
   refine ⟨us, rfl, hl, fun i c u h1 h2 => ?_⟩
   have h3 := hcs i c u h1 h2
   have h4 := (List.all_eq_true.1 hall) c (List.mem_of_getElem? h1)
   cases c with
   | bx k off =>
    obtain ⟨g, hg, rfl⟩ := h3
    have h5 : k ∈ K.bs := by simpa using h4
    exact ⟨g, by simp [Env.keep, h5, hg], rfl⟩
   | g u => exact h3
   | ep cs => exact ren_rel0 h K (c := .ep cs) h3
   | _ => simp at h4
  ·obtain ⟨us, rfl, _⟩ := hc; rfl
 | mv f caps =>
  simp only [AS.renC]
  split
  ·rename_i hall
   obtain ⟨us, rfl, hl, hcs⟩ := hc
   refine ⟨us, rfl, hl, fun i c u h1 h2 => ?_⟩
   have h3 := hcs i c u h1 h2
   have h4 := (List.all_eq_true.1 hall) c (List.mem_of_getElem? h1)
   cases c with
   | bx k off =>
    obtain ⟨g, hg, rfl⟩ := h3
    have h5 : k ∈ K.bs := by simpa using h4
    exact ⟨g, by simp [Env.keep, h5, hg], rfl⟩
   | g u => exact h3
   | ep cs => exact ren_rel0 h K (c := .ep cs) h3
   | _ => simp at h4
  ·obtain ⟨us, rfl, _⟩ := hc; rfl
 | g u => exact key (ren_rel0 h K (c := .g u) hc)
 | sl fr z es => exact key (ren_rel0 h K (c := .sl fr z es) hc)
 | ep cs => exact key (ren_rel0 h K (c := .ep cs) hc)
 | bx k off => exact key (ren_rel0 h K (c := .bx k off) hc)
 | ow k ver => exact key (ren_rel0 h K (c := .ow k ver) hc)
 | op k ver i off => exact key (ren_rel0 h K (c := .op k ver i off) hc)
 | os k ver lo => exact key (ren_rel0 h K (c := .os k ver lo) hc)
 | ws k ver lo hi => exact key (ren_rel0 h K (c := .ws k ver lo hi) hc)
 | mp k => exact key (ren_rel0 h K (c := .mp k) hc)
 | fm kc es => exact key (ren_rel0 h K (c := .fm kc es) hc)
 | any => exact key (ren_rel0 h K (c := .any) hc)
theorem ren_vrel (h : St w0 okA ext N s a w E) (K : Kp) {x : Val} {v : Value} (hc : VRel w (okE w0 okA E) w0.heap.size E x v) :
  VRel w (okE w0 okA (E.keep K)) w0.heap.size (E.keep K) (s.ren K x) v := by
 cases hc with
 | one h1 => exact .one (ren_rel h K h1)
 | ag h1 =>
  refine .ag ⟨by simpa using h1.1, fun i c u h2 h3 => ?_⟩
  rw [List.getElem?_map] at h2
  cases hi : (_ : List Cel)[i]? with
  | none => rw [hi] at h2; cases h2
  | some c0 => rw [hi] at h2; simp at h2; subst h2; exact ren_rel h K (h1.2 i c0 u hi h3)
 | tu => exact .any
 | any => exact .any
theorem tabV_map (f : Nat → Val) : ∀ (ks : List Nat) (t : Nat), tabV (ks.map fun t => (t, f t)) t = if t ∈ ks then f t else .any
 | [], t => rfl
 | k :: ks, t => by
  simp only [List.map_cons, tabV, tabV_map f ks t, List.mem_cons]
  by_cases e : t = k
  ·subst e; simp
  ·simp [e]
theorem St.keepE (h : St w0 okA ext N s a w E) (K : Kp) (hq : (∀ k v, XK ≤ k → K.q k v = 0 → v = 0) ∨ ∀ k u, ext.r0 k u) (hq0 : ∀ k, K.q k 0 = 0) : St w0 okA ext N (s.keepK K) a w (E.keep K) := by
 ·skip
  have hbx : ∀ k, (s.keepK K).bx k = if k ∈ K.bs then (s.bx k).map (fun cs => cs.map (s.renC K)) else none := fun k => tabO_filterMap s.bx (fun _ cs => cs.map (s.renC K)) K.bs k
  have hrw : ∀ k, (s.keepK K).rw k = if k ∈ K.rs then (s.rw k).map (fun r => { r with ver := K.q k r.ver }) else none := fun k => tabO_filterMap (β := Row) s.rw (fun k r => { r with ver := K.q k r.ver }) K.rs k
  have htm : ∀ t, (s.keepK K).tm t = if t ∈ K.ts then s.ren K (s.tm t) else .any := fun t => tabV_map (fun t => s.ren K (s.tm t)) K.ts t
  have hgm : ∀ {k g}, (E.keep K).gm k = some g → E.gm k = some g := fun {k g} hk => by
   simp only [Env.keep] at hk; split at hk
   ·exact hk
   ·cases hk
  have hrm : ∀ {k ver z u}, (E.keep K).rm k = some (ver, z, u) → ∃ ver', E.rm k = some (ver', z, u) := fun {k ver z u} hk => by
   simp only [Env.keep] at hk; split at hk
   ·cases hx : E.rm k with
    | none => rw [hx] at hk; cases hk
    | some x => obtain ⟨x1, x2, x3⟩ := x; rw [hx] at hk; simp at hk; obtain ⟨_, rfl, rfl⟩ := hk; exact ⟨x1, rfl⟩
   ·cases hk
  refine ⟨h.size, h.defers, fun t => ?_, fun k cs hk => ?_, fun k hk => ?_, fun k r hk => ?_, fun k hk => ?_, fun k k' g h1 h2 => h.ginj k k' g (hgm h1) (hgm h2), fun k g k' ver z u h1 h2 => ?_, fun k ver z u k' ver' z' u' b h1 h2 => ?_, fun k g h1 => h.gfr k g (hgm h1), fun k g hk h1 => h.gx k g hk (hgm h1), h.nx, fun k ver z u b h1 hb => (hrm h1).elim fun v' h2 => h.rfr k v' z u b h2 hb, fun k z u hk h1 => ?_, h.frame, fun k g hk hg => h.bt k g hk (hgm hg)⟩
  ·rw [htm]; split
   ·exact ren_vrel h K (h.tm t)
   ·exact .any
  ·rw [hbx] at hk
   split at hk
   ·rename_i hin
    cases hx : s.bx k with
    | none => rw [hx] at hk; cases hk
    | some cs0 =>
     rw [hx] at hk; simp at hk; subst hk
     obtain ⟨g, cur, ty, h1, h2, h3⟩ := h.bx k cs0 hx
     refine ⟨g, cur, ty, by simp [Env.keep, hin, h1], h2, by simpa using h3.1, fun i c u h4 h5 => ?_⟩
     rw [List.getElem?_map] at h4
     cases hi : cs0[i]? with
     | none => rw [hi] at h4; cases h4
     | some c0 => rw [hi] at h4; simp at h4; subst h4; exact ren_rel h K (h3.2 i c0 u hi h5)
   ·cases hk
  ·rw [hbx] at hk
   simp only [Env.keep]
   split at hk
   ·rename_i hin
    rw [if_pos hin]
    exact h.bxn k (by simpa using hk)
   ·rename_i hin; rw [if_neg hin]
  ·rw [hrw] at hk
   split at hk
   ·rename_i hin
    cases hx : s.rw k with
    | none => rw [hx] at hk; cases hk
    | some r0 =>
     rw [hx] at hk; simp at hk; subst hk
     obtain ⟨h1, h2, u, vs, h3, h4, h5⟩ := h.rw k r0 hx
     exact ⟨fun h0 => by show K.q k r0.ver = 0; rw [h1 h0]; exact hq0 k, h2, u, vs, by simp [Env.keep, hin, h3], h4, h5.move (.refl _ w) (fun b _ ho => okE_keep K ho) (Nat.le_refl _)⟩
   ·cases hk
  ·rw [hrw] at hk
   simp only [Env.keep]
   split at hk
   ·rename_i hin
    rw [if_pos hin, h.rwn k (by simpa using hk)]; rfl
   ·rename_i hin; rw [if_neg hin]
  ·obtain ⟨v', h3⟩ := hrm h2; exact h.gr k g k' v' z u (hgm h1) h3
  ·obtain ⟨v1, h3⟩ := hrm h1; obtain ⟨v2, h4⟩ := hrm h2; exact h.rr k v1 z u k' v2 z' u' b h3 h4
  ·simp only [Env.keep] at h1; split at h1
   ·cases hx : E.rm k with
    | none => rw [hx] at h1; cases h1
    | some x =>
     obtain ⟨x1, x2, x3⟩ := x
     rw [hx] at h1; simp at h1
     obtain ⟨h2, rfl, rfl⟩ := h1
     rcases hq with hq | hq
     ·have h3 := hq k x1 hk h2
      subst h3
      exact h.rst k _ _ hk hx
     ·exact hq _ _
   ·cases h1
theorem St.keep (h : St w0 okA ext N s a w E) (Ko : Option Keep) : ∃ E', St w0 okA ext N (s.keep Ko) a w E' := by
 cases Ko with
 | none => exact ⟨E, h⟩
 | some K => exact ⟨_, h.keepE (K.at kv) (.inl fun k v hk hv => by
  have hv : kv k v = 0 := hv
  unfold kv at hv; rw [if_neg (by omega)] at hv; omega) (fun k => by show kv k 0 = 0; unfold kv; split <;> rfl)⟩
/-- What the rows were is asked no more. -/
theorem St.free (h : St w0 okA ext N s a w E) : St w0 okA ⟨ext.blk, ext.gk, ext.rk, fun _ _ => True, ext.bT⟩ N s a w E :=
 ⟨h.size, h.defers, h.tm, h.bx, h.bxn, h.rw, h.rwn, h.ginj, h.gr, h.rr, h.gfr, h.gx, h.nx, h.rfr, fun _ _ _ _ _ => trivial, h.frame, h.bt⟩
/-! ### What a callee sees -/
theorem CRel.toD {c : Cel} {v : Value} {ok ok' : Nat → Prop} {base : Nat} (h : St w0 okA ext N s a w E) (hc : CRel w ok base E c v) (hok : ∀ b, ok b → ok' b) (hw : ∀ b, okE w0 okA E b → ok' b) (hrow : ∀ k ver z u b, E.rm k = some (ver, z, u) → (blkV u) = some b → ok' b) : DRel w ok' (s.dataV c) v := by
 have hone := hc.oneC
 cases c with
 | g u => obtain ⟨rfl, h1⟩ := hc; exact .g h1
 | sl fr z es =>
  have h2 : DRel w ok' (.sl fr z es) v := by
   cases fr with
   | false => exact DRel.keep hc (.refl _ w) (fun b _ h => hok b h)
   | true => exact DRel.keep (ok := fun b => base ≤ b ∧ ok b) hc (.refl _ w) (fun b _ h => hok b h.2)
  simp only [AS.dataV]
  cases h2 with
  | nil => exact .nil
  | sl us h1 h2 h3 h4 h5 h6 h7 => exact .sl us h1 h2 h3 h4 h5 h6 h7
 | fm kc es => exact DRel.keep hc (.refl _ w) (fun b _ h => hok b h)
 | ep cs => exact CRel0.toDR (base := base) (E' := E) rfl hc hok
 | mp k =>
  simp only [AS.dataV]
  cases hs : s.rw k with
  | none => exact .any hone
  | some r =>
   obtain ⟨h1, ver', u, hr, rfl⟩ := hc
   obtain ⟨_, hro, u', vs, hu', hown, hrel⟩ := h.rw k r hs
   have hr2 := hr
   rw [hr] at hu'
   simp only [Option.some.injEq, Prod.mk.injEq] at hu'
   obtain ⟨rfl, hz0, rfl⟩ := hu'
   rw [← hz0] at hown
   exact row_fm (hro.2 hz0.symm) hown rfl hrel hw (fun b hb => hrow k _ _ _ b hr2 hb)
 | ow k ver =>
  simp only [AS.dataV]
  cases hs : s.rw k with
  | none => exact .any hone
  | some r =>
   simp only []
   split
   ·rename_i hver
    obtain ⟨h1, ver', z, u, hr, hle, hv, hzp⟩ := hc
    obtain ⟨_, h2, u', vs, hu', h3, h4⟩ := h.rwS hs (h.zpos hs hr hzp)
    rw [hr] at hu'
    simp only [Option.some.injEq, Prod.mk.injEq] at hu'
    obtain ⟨rfl, rfl, rfl⟩ := hu'
    rw [hv hver]
    exact row_data h2 h3 rfl h4 hw (fun b hb => hrow k _ _ _ b hr hb)
   ·exact .any hone
 | fn f caps =>
  cases caps with
  | nil =>
   obtain ⟨us, rfl, hl, _⟩ := hc
   rw [List.eq_nil_of_length_eq_zero (l := us) (by simpa using hl.symm)]
   exact .g rfl
  | cons a l => exact .any hone
 | _ => exact .any hone
theorem DRel.toC0 {c : Cel} {v : Value} {ok : Nat → Prop} {base : Nat} {E' : Env} (h : DRel w ok c v) (hc : ∀ fr z es, c = .sl fr z es → fr = false) : CRel0 w ok base E' c v := by
 cases h with
 | g hv => exact ⟨rfl, hv⟩
 | any hv => exact hv
 | nil => have := hc _ _ _ rfl; subst this; exact DRel.nil
 | sl us h1 h2 h3 h4 h5 h6 h7 => have := hc _ _ _ rfl; subst this; exact DRel.sl us h1 h2 h3 h4 h5 h6 h7
 | fm cs h1 h2 h3 h4 h5 h6 => exact DRel.fm cs h1 h2 h3 h4 h5 h6
 | ep us h1 h2 h3 h4 => exact ⟨_, _, us, rfl, h1, h2, fun j x hx => ⟨h3 j x hx, h4 j x hx⟩⟩
theorem view_rel0 (h : St w0 okA ext N s a w E) {c : Cel} {v : Value} {ok ok' : Nat → Prop} {base base' : Nat} {E' : Env} (hc : CRel0 w ok base E c v) (hok : ∀ b, ok b → ok' b) (hw : ∀ b, okE w0 okA E b → ok' b)
  (hrow : ∀ k ver z u b, s.rw k ≠ none → E.rm k = some (ver, z, u) → (blkV u) = some b → ok' b) (hbox : ∀ k g, s.bx k ≠ none → E.gm k = some g → ok' g) :
  CRel0 w ok' base' E' (s.viewC0 c) v := by
 have hrow' : ∀ k ver z u b, E.rm k = some (ver, z, u) → (blkV u) = some b → ok' b := fun k ver z u b hr hb => by
  by_cases hs : s.rw k = none
  ·rw [h.rwn k hs] at hr; cases hr
  ·exact hrow k ver z u b hs hr hb
 have hone := hc.oneC
 cases c with
 | g u => exact hc
 | sl fr z es => exact (CRel.toD (ok' := ok') (base := base) h (c := .sl fr z es) hc hok hw hrow').toC0 (by intro fr z es he; simp [AS.dataV] at he; exact he.1)
 | ep cs =>
  obtain ⟨b, off, us, rfl, ho, hlt, hcs⟩ := hc
  exact ⟨b, off, us, rfl, hok b ho, hlt, fun j x hx => ⟨(hcs j x hx).1, (hcs j x hx).2.keep (.refl _ w) (fun b _ h => hok b h)⟩⟩
 | bx k off =>
  simp only [AS.viewC0]
  cases hs : s.bx k with
  | none => exact hone
  | some cs =>
   obtain ⟨g, hg, rfl⟩ := hc
   obtain ⟨g', cur, ty, h1, h2, h3⟩ := h.bx k cs hs
   rw [hg] at h1; injection h1 with h1; subst h1
   refine ⟨g, off, fun j => (cur.toList[off + j]?).getD undef, rfl, hbox k g (by simp [hs]) hg, h.glt hg, fun j x hx => ?_⟩
   rw [List.getElem?_map] at hx
   cases hi : (cs.drop off)[j]? with
   | none => rw [hi] at hx; cases hx
   | some c0 =>
    rw [hi] at hx; simp at hx; subst hx
    rw [List.getElem?_drop] at hi
    obtain ⟨u, h4, h5⟩ := h3.at_ hi
    refine ⟨?_, ?_⟩
    ·rw [cell_of_row w g (off + j) cur ty (0, 0) h2, ← Array.getElem?_toList, h4]; simp only [h4, Option.getD_some]
    ·simp only [h4, Option.getD_some]; exact CRel.toD h h5 hw hw hrow'
 | ow k ver =>
  simp only [AS.viewC0]
  cases hs : s.rw k with
  | none => exact hone
  | some r =>
   simp only []
   split
   ·rename_i hver
    have h6 := CRel.toD (ok := ok) (ok' := ok') (base := base) h (c := .ow k ver) hc hok hw hrow'
    simp only [AS.dataV, hs, hver, if_true] at h6
    exact h6.toC0 (by intro fr z es he; injection he with h1 _; exact h1.symm)
   ·exact hone
 | op k ver i off =>
  simp only [AS.viewC0]
  cases hs : s.rw k with
  | none => exact hone
  | some r =>
   simp only []
   split
   ·rename_i hver
    cases he : r.es[i]? with
    | none => exact hone
    | some e =>
     obtain ⟨h1, ver', z, u, hr, hle, hv, hzp⟩ := hc
     obtain ⟨_, h2, u', vs, hu', h3, h5⟩ := h.rwS hs (h.zpos hs hr hzp)
     rw [hr] at hu'
     simp only [Option.some.injEq, Prod.mk.injEq] at hu'
     obtain ⟨rfl, rfl, rfl⟩ := hu'
     obtain ⟨g, n, c, rfl, rfl⟩ := hv hver
     refine ⟨g, i * r.z + off, fun j => vs.getD (i * r.z + (off + j)) undef, rfl, hrow k _ _ _ g (by simp [hs]) hr rfl, h.rlt hr rfl, fun j x hx => ?_⟩
     have hx' := hx
     rw [List.getElem?_drop] at hx'
     obtain ⟨h6, h7, h8⟩ := vs_at (n := 0) h2 h5 he hx'
     have h4 := h3.cells (g := g) rfl _ _ h6
     rw [add_none, Nat.zero_add, ← Nat.add_assoc] at h4
     exact ⟨by rw [h4, Nat.add_assoc], h8.toDR h7 hw⟩
   ·exact hone
 | ws k ver lo hi =>
  simp only [AS.viewC0]
  cases hs : s.rw k with
  | none => exact hone
  | some r =>
   simp only []
   split
   ·rename_i hver
    obtain ⟨h1, ver', z, u, hr, hle, hv, hzp⟩ := hc
    obtain ⟨_, h2, u', vs, hu', h3, h5⟩ := h.rwS hs (h.zpos hs hr hzp)
    rw [hr] at hu'
    simp only [Option.some.injEq, Prod.mk.injEq] at hu'
    obtain ⟨rfl, rfl, rfl⟩ := hu'
    obtain ⟨g, n, c, A, c', rfl, hlh, hhn, rfl, hcc, hA⟩ := hv hver
    have hn : n = r.es.length := by
     rcases h3.2 with ⟨h6, _⟩ | ⟨g', cap, cur, h6, _⟩
     ·cases h6
     ·injection h6
    have hlen : ((r.es.take hi).drop lo).length = hi - lo := by rw [List.length_drop, List.length_take]; omega
    show DRel w _ (.sl false r.z ((r.es.take hi).drop lo)) _
    by_cases hlt : lo < hi
    ·rw [hA hlt]
     refine DRel.sl (fun i j => vs.getD ((lo + i) * r.z + j) undef) hlen.symm hcc (hrow k _ _ _ g (by simp [hs]) hr rfl) (h.rlt hr rfl) (fun e he => h2 e (List.mem_of_mem_take (List.mem_of_mem_drop he))) (fun i e j x he hx => ?_) (fun i e j x he hx => ?_)
     ·have he' : r.es[lo + i]? = some e := by
       rw [List.getElem?_drop] at he
       have := List.getElem?_take_of_lt (l := r.es) (show lo + i < hi by have := (List.getElem?_eq_some_iff.1 he).1; rw [List.length_take] at this; omega)
       rw [this] at he; exact he
      obtain ⟨h6, h7, h8⟩ := vs_at (n := 0) h2 h5 he' hx
      have h4 := h3.cells (g := g) rfl _ _ h6
      rw [add_none, Nat.zero_add] at h4
      rw [show lo * r.z + i * r.z + j = (lo + i) * r.z + j by rw [Nat.add_mul]]
      exact h4
     ·have he' : r.es[lo + i]? = some e := by
       rw [List.getElem?_drop] at he
       have := List.getElem?_take_of_lt (l := r.es) (show lo + i < hi by have := (List.getElem?_eq_some_iff.1 he).1; rw [List.length_take] at this; omega)
       rw [this] at he; exact he
      obtain ⟨h6, h7, h8⟩ := vs_at (n := 0) h2 h5 he' hx
      exact h8.toDR h7 hw
    ·have h0 : (r.es.take hi).drop lo = [] := List.eq_nil_of_length_eq_zero (by omega)
     rw [h0, show hi - lo = 0 by omega]
     exact .nil
   ·exact hone
 | os k ver lo => exact hone
 | mp k =>
  simp only [AS.viewC0]
  cases hs : s.rw k with
  | none => exact hone
  | some r =>
   have h6 := CRel.toD (ok := ok) (ok' := ok') (base := base) h (c := .mp k) hc hok hw hrow'
   simp only [AS.dataV, hs] at h6
   exact h6.toC0 (by intro fr z es he; cases he)
 | fm kc es => exact DRel.keep hc (.refl _ w) (fun b _ h => hok b h)
 | fn f caps => exact hc.elim
 | mv f caps => exact hc.elim
 | any => exact hc
/-- A row is moved out: what it held is data that nobody turns; the row is empty behind it. -/
theorem St.mv (h : St w0 okA ext N s a w E) {k : Nat} {r : Row} (hs : s.rw k = some r) (hz : 0 < r.z) (hk : k < XK) :
  ∃ E', St w0 okA ext N (s.mvS k r) a w E' ∧ EnvLe E E' ∧ (∀ b, b < w.heap.size → okE w0 okA E b → okE w0 okA E' b) ∧ (∀ j, j ≠ k → (s.mvS k r).rw j = s.rw j) ∧
   ∀ {cs : List Cel} {us : List Value}, CsRel w (okE w0 okA E) w0.heap.size E cs us → CsRel w (okE w0 okA E') w0.heap.size E' (cs.map (mvF k r)) us := by
 obtain ⟨hz0, hro, u, vs, hu, hown, hrel⟩ := h.rwS hs hz
 have hst := h.rowTurnG (w' := w) (r' := { r with ver := r.ver + 1, es := [] }) (u' := .slice none 0 0) (vs' := []) hs hu rfl (Nat.le_succ _) (fun e => by omega) (fun e => by rcases e with e | e <;> (try simp only at e) <;> omega) (.of hz0 (fun e he => by cases he)) ⟨rfl, rfl, rfl, Nat.le_refl _, fun _ _ _ => rfl⟩ (.inl ⟨hz0, World.ownsRow_nil _ _ _ _⟩) .nil (.inr (.inr rfl))
 have hle : EnvLe E ⟨E.gm, upd E.rm k (some (r.ver + 1, r.z, .slice none 0 0))⟩ := ⟨fun _ _ h => h, fun j ver z v hj => by
  by_cases e : j = k
  ·subst e
   rw [hu] at hj; simp only [Option.some.injEq, Prod.mk.injEq] at hj
   obtain ⟨rfl, rfl, rfl⟩ := hj
   exact ⟨r.ver + 1, .slice none 0 0, by simp [upd_same], Nat.le_succ _, fun e => by rcases e with e | e <;> omega⟩
  ·exact ⟨ver, v, by simp only [upd_ne _ _ e]; exact hj, Nat.le_refl _, fun _ => rfl⟩⟩
 have hokb : ∀ b, b < w.heap.size → okE w0 okA E b → okE w0 okA ⟨E.gm, upd E.rm k (some (r.ver + 1, r.z, .slice none 0 0))⟩ b := fun b hb ho => by
  refine ⟨ho.1, fun j ver z v hj => ?_, ho.2.2⟩
  by_cases e : j = k
  ·subst e
   simp only [upd_same, Option.some.injEq, Prod.mk.injEq] at hj
   obtain ⟨_, _, rfl⟩ := hj
   exact fun h => by cases h
  ·simp only [upd_ne _ _ e] at hj; exact ho.2.1 j ver z v hj
 refine ⟨_, hst, hle, hokb, fun j hj => by simp only [AS.mvS, upd_ne _ _ hj], fun {cs us} hc => ⟨by simpa using hc.1, fun i c v h1 h2 => ?_⟩⟩
 rw [List.getElem?_map] at h1
 cases hi : cs[i]? with
 | none => rw [hi] at h1; cases h1
 | some c0 =>
  rw [hi] at h1; simp only [Option.map_some, Option.some.injEq] at h1; subst h1
  have h3 := hc.2 i c0 v hi h2
  have h4 := h3.move (.refl _ w) hokb (Nat.le_refl _) hle
  cases c0 with
  | ow j ver =>
   simp only [mvF]
   split
   ·rename_i hjv
    obtain ⟨rfl, rfl⟩ := hjv
    obtain ⟨h1, ver', z, u', hr, hle', hv, hzp⟩ := h3
    rw [hu] at hr
    simp only [Option.some.injEq, Prod.mk.injEq] at hr
    obtain ⟨rfl, rfl, rfl⟩ := hr
    rw [hv rfl]
    refine CRel0.toC (row_sl hro hown rfl (hrel.move (.refl _ w) hokb (Nat.le_refl _)) fun b hb => ?_)
    have hf : w0.heap.size ≤ b := (h.rfr j _ _ u b hu hb).resolve_right fun e => by have := e.1; omega
    refine ⟨hf, fun k' hk' => ?_, fun k' ver z v hk' => ?_, .inl hf⟩
    ·exact h.gr k' b j _ _ u hk' hu hb
    ·by_cases e : k' = j
     ·subst e
      simp only [upd_same, Option.some.injEq, Prod.mk.injEq] at hk'
      obtain ⟨_, _, rfl⟩ := hk'
      exact fun h => by cases h
     ·simp only [upd_ne _ _ e] at hk'
      exact fun h5 => e (h.rr _ _ _ _ _ _ _ _ b hk' hu h5 hb)
   ·exact h4
  | _ => exact h4
theorem mvR_some {cs : List Cel} {k : Nat} {r : Row} (h : s.mvR cs = some (k, r)) : s.rw k = some r ∧ 0 < r.z ∧ k < XK := by
 unfold AS.mvR at h
 split at h
 ·split at h
  ·split at h
   ·rename_i hs hc; cases h; exact ⟨hs, hc.1, hc.2⟩
   ·cases h
  ·cases h
 ·cases h
end
end Go.Ai

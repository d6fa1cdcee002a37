/-
  The abstract layer: an interpreter over lists, for the loaded code. This text only defines; nothing is stated of any program.
-/
import Derived.WalkKit
import Derived.Orders
import Derived.Maps.AppendAt
import Derived.Laws.CopyRow
import Derived.Deep.Draws
import Derived.IntWalk
namespace Go.Ai
open Go
set_option linter.unusedSimpArgs false
set_option linter.unusedVariables false

/-- One cell, abstractly. g: just this value; sl: a slice that nobody writes any more, as its elements' cells; ep: a pointer to such cells; bx: a pointer into a box of the call's own; ow: a row of the call's own; op: a pointer into it; fn: a function value. -/
inductive Cel where
  | g (v : Value)
  | sl (fr : Bool) (z : Nat) (es : List (List Cel))
  | ep (cs : List Cel)
  | bx (k off : Nat)
  | ow (k ver : Nat)
  | op (k ver i off : Nat)
  | os (k ver lo : Nat)
  | mp (k : Nat)
  | fn (f : FuncId) (caps : List Cel)
  | any

inductive Val where
  | one (c : Cel)
  | ag (cs : List Cel)
  | tu (vs : List Val)
  | any

/-- Live boxes by key: their blocks; live rows by key: version and slice value. -/
structure Env where
  gm : Nat → Option Nat
  rm : Nat → Option (Nat × Nat × Value)

def Env.none : Env := ⟨fun _ => Option.none, fun _ => Option.none⟩

inductive DRel (w : World) (ok : Nat → Prop) : Cel → Value → Prop
  | g {v : Value} : v.oneCell' = true → DRel w ok (.g v) v
  | any {v : Value} : v.oneCell' = true → DRel w ok .any v
  | nil {fr : Bool} {z : Nat} {a : Option Addr} {c : Nat} : DRel w ok (.sl fr z []) (.slice a 0 c)
  | sl {fr : Bool} {z : Nat} {es : List (List Cel)} {b off n c : Nat} (us : Nat → Nat → Value) : n = es.length → n ≤ c → ok b → b < w.heap.size → (∀ e ∈ es, e.length = z) →
      (∀ i e j x, es[i]? = some e → e[j]? = some x → w.cell? ⟨b, off + i * z + j, none⟩ = some (us i j)) →
      (∀ i e j x, es[i]? = some e → e[j]? = some x → DRel w ok x (us i j)) → DRel w ok (.sl fr z es) (.slice (some ⟨b, off, none⟩) n c)

/-- A cell that holds no function. -/
def CRel0 (w : World) (ok : Nat → Prop) (base : Nat) (E : Env) : Cel → Value → Prop
  | .g u, v => v = u ∧ u.oneCell' = true
  | .sl fr z es, v => DRel w (if fr then (fun b => base ≤ b ∧ ok b) else ok) (.sl fr z es) v
  | .ep cs, v => ∃ (b off : Nat) (us : Nat → Value), v = .pointer (some ⟨b, off, none⟩) ∧ ok b ∧ b < w.heap.size ∧ ∀ (j : Nat) (x : Cel), cs[j]? = some x → w.cell? ⟨b, off + j, none⟩ = some (us j) ∧ DRel w ok x (us j)
  | .bx k off, v => ∃ g, E.gm k = some g ∧ v = .pointer (some ⟨g, off, none⟩)
  | .ow k ver, v => v.oneCell' = true ∧ ∃ ver' z u, E.rm k = some (ver', z, u) ∧ ver ≤ ver' ∧ (ver = ver' → v = u) ∧ 0 < z
  | .op k ver i off, v => v.oneCell' = true ∧ ∃ ver' z u, E.rm k = some (ver', z, u) ∧ ver ≤ ver' ∧ (ver = ver' → ∃ g n c, u = .slice (some ⟨g, 0, none⟩) n c ∧ v = .pointer (some ⟨g, i * z + off, none⟩)) ∧ 0 < z
  | .os k ver lo, v => v.oneCell' = true ∧ ∃ ver' z u, E.rm k = some (ver', z, u) ∧ ver ≤ ver' ∧ (ver = ver' → ∃ g n c A, u = .slice (some ⟨g, 0, none⟩) n c ∧ lo ≤ n ∧ v = .slice (some A) (n - lo) (c - lo) ∧ (lo < n → A = ⟨g, lo * z, none⟩)) ∧ 0 < z
  | .mp k, v => v.oneCell' = true ∧ ∃ ver' u, E.rm k = some (ver', 0, u) ∧ v = u
  | .fn _ _, _ => False
  | .any, v => v.oneCell' = true

def CRel (w : World) (ok : Nat → Prop) (base : Nat) (E : Env) : Cel → Value → Prop
  | .fn f caps, v => ∃ us : List Value, v = .func (.func f) #[] us.toArray ∧ caps.length = us.length ∧ ∀ (i : Nat) (c : Cel) (u : Value), caps[i]? = some c → us[i]? = some u → CRel0 w ok base E c u
  | c, v => CRel0 w ok base E c v

def CsRel (w : World) (ok : Nat → Prop) (base : Nat) (E : Env) (cs : List Cel) (us : List Value) : Prop :=
  cs.length = us.length ∧ ∀ (i : Nat) (c : Cel) (u : Value), cs[i]? = some c → us[i]? = some u → CRel w ok base E c u

inductive VRel (w : World) (ok : Nat → Prop) (base : Nat) (E : Env) : Val → Value → Prop
  | one {c : Cel} {v : Value} : CRel w ok base E c v → VRel w ok base E (.one c) v
  | ag {cs : List Cel} {us : List Value} : CsRel w ok base E cs us → VRel w ok base E (.ag cs) (.agg us.toArray)
  | tu {vs : List Val} {us : List Value} : vs.length = us.length → (∀ (i : Nat) (x : Val) (u : Value), vs[i]? = some x → us[i]? = some u → VRel w ok base E x u) → VRel w ok base E (.tu vs) (.tuple us.toArray)
  | any {v : Value} : VRel w ok base E .any v

/-- A row of the call's own: its version, element type, cells an element, elements; gr: its cells are plain values. -/
structure Row where
  ver : Nat
  E : TypeId
  z : Nat
  es : List (List Cel)

structure AS where
  tm : Nat → Val
  bx : Nat → Option (List Cel)
  rw : Nat → Option Row

/-- Boxes and rows that are handed over, by key. -/
structure Hp where
  bs : List (Nat × List Cel)
  rs : List (Nat × Row)

def upd {α : Type} (f : Nat → α) (k : Nat) (v : α) : Nat → α := fun j => if j = k then v else f j
def tabV : List (Nat × Val) → Nat → Val
  | [], _ => .any
  | (k, v) :: l, n => if n = k then v else tabV l n
def tabO {α : Type} : List (Nat × α) → Nat → Option α
  | [], _ => none
  | (k, v) :: l, n => if n = k then some v else tabO l n

inductive Opd where
  | t (n : Nat)
  | v (x : Value)
  | f (n : FuncId)

/-- Data: what may lie in a row. -/
def Cel.isD : Cel → Bool
  | .g _ => true
  | .sl _ _ _ => true
  | .any => true
  | _ => false
/-- Nothing but values and memory that the callee has made is in this cell. -/
def freshC (c : Cel) : Bool := match c with | .g _ | .sl true _ _ | .any => true | _ => false
/-- All cells of elements are fresh. -/
def frE (es : List (List Cel)) : Bool := es.all fun e => e.all freshC
/-- Keys from here on: rows and boxes that were handed over. -/
def XK : Nat := 1000000
def ofV : Value → Val
  | .agg cs => .ag (cs.toList.map .g)
  | v => .one (.g v)
def AS.ev (s : AS) : Opd → Val
  | .t n => s.tm n
  | .v x => ofV x
  | .f n => .one (.fn n [])
def AS.put (s : AS) (d : Option Nat) (v : Val) : AS :=
  match d with
  | some d => { s with tm := upd s.tm d v }
  | none => s

/-- A cell as plain data. -/
def AS.dataV (s : AS) : Cel → Cel
  | .g v => .g v
  | .sl _ z es => .sl false z es
  | .ow k ver => match s.rw k with
    | some r => if ver = r.ver then .sl false r.z r.es else .any
    | none => .any
  | _ => .any
/-- What can be handed to a callee that only reads. -/
def AS.viewC0 (s : AS) : Cel → Cel
  | .sl _ z es => .sl false z es
  | .ow k ver => match s.rw k with
    | some r => if ver = r.ver then .sl false r.z r.es else .any
    | none => .any
  | .bx k off => match s.bx k with
    | some cs => .ep ((cs.drop off).map s.dataV)
    | none => .any
  | .op k ver i off => match s.rw k with
    | some r => if ver = r.ver then (match r.es[i]? with | some e => .ep (e.drop off) | none => .any) else .any
    | none => .any
  | .fn _ _ => .any
  | .os _ _ _ => .any
  | .mp _ => .any
  | c => c
def AS.viewC (s : AS) : Cel → Cel
  | .fn f caps => .fn f (caps.map s.viewC0)
  | c => s.viewC0 c
def AS.view (s : AS) : Val → Val
  | .one c => .one (s.viewC c)
  | .ag cs => .ag (cs.map s.viewC)
  | _ => .any
/-- What is handed back. -/
def AS.finC (s : AS) : Cel → Cel
  | .ow k ver => match s.rw k with
    | some r => if ver = r.ver then (if k < XK then .sl (frE r.es) r.z r.es else .any) else .any
    | none => .any
  | .bx _ _ => .any
  | .op _ _ _ _ => .any
  | .fn _ _ => .any
  | .os _ _ _ => .any
  | .mp _ => .any
  | c => c
def AS.fin (s : AS) : Val → Val
  | .one c => .one (s.finC c)
  | .ag cs => .ag (cs.map s.finC)
  | _ => .any

/-- A cell that came out of memory that nobody writes. -/
def Cel.dat : Cel → Cel
  | .sl _ z es => .sl false z es
  | c => c
/-- A cell of memory that the call has made. -/
def Cel.tof : Cel → Cel
  | .sl _ z es => .sl true z es
  | c => c
def datE (es : List (List Cel)) : List (List Cel) := es.map (List.map Cel.dat)
def tofE (es : List (List Cel)) : List (List Cel) := es.map (List.map Cel.tof)
/-- What is appended: elements of z cells. -/
def AS.src (s : AS) (z : Nat) : Val → Option (List (List Cel))
  | .one (.sl fr z' es) => if z' = z then some (if fr then tofE es else datE es) else none
  | .one (.g (.slice none 0 _)) => some []
  | .one (.ow k ver) => match s.rw k with
    | some r => if ver = r.ver ∧ r.z = z then some r.es else none
    | none => none
  | _ => none

def vcells : Val → Option (List Cel)
  | .one c => some [c]
  | .ag cs => some cs
  | _ => none

/-- cs with new cells from off on. -/
def wr {α : Type} (cs : List α) (off : Nat) (news : List α) : List α := cs.take off ++ news ++ cs.drop (off + news.length)

inductive SRes where
  | ok (s : AS)
  | need (p : Prop) (s : AS)
  | bad

/-- What is compared: integers of a kind, bools, strings; a slice, a pointer, an interface value with nil. -/
inductive KTy where
  | i (k : IntKind)
  | b
  | s
  | ns
  | np
  | ni
def eqK : KTy → Cel → Cel → Option Bool
  | .i k, .g (.int k1 a), .g (.int k2 b) => if k1 = k ∧ k2 = k then some (decide (a = b)) else none
  | .b, .g (.bool a), .g (.bool b) => some (decide (a = b))
  | .s, .g (.string a), .g (.string b) => some (a.toList == b.toList)
  | .ns, .sl _ _ (_ :: _), .g (.slice none _ _) => some false
  | .ns, .g (.slice none _ _), .g (.slice none _ _) => some true
  | .np, .bx _ _, .g (.pointer none) => some false
  | .np, .ep _, .g (.pointer none) => some false
  | .np, .g (.pointer none), .g (.pointer none) => some true
  | .ni, .g .nilIface, .g .nilIface => some true
  | .ni, .g (.iface _ _), .g .nilIface => some false
  | _, _, _ => none
def eqL : List KTy → List Cel → List Cel → Option Bool
  | [], [], [] => some true
  | k :: ks, c :: cs, d :: ds => match eqK k c d, eqL ks cs ds with
    | some a, some b => some (a && b)
    | _, _ => none
  | _, _, _ => none
def eqV (agg : Bool) (ks : List KTy) : Val → Val → Option Bool
  | .ag cs, .ag ds => if agg then eqL ks cs ds else none
  | .one c, .one d => if agg then none else eqL ks [c] [d]
  | _, _ => none

/-- What a call is handed: the keys of boxes and rows; their keys behind the call, those that are new among them. -/
structure CAnn where
  bks : List Nat
  rks : List Nat
  obs : List Nat
  ors : List Nat
  sts : List Nat

/-- The kind of a map's keys: 0: strings; else integers. -/
def kcode : IntKind → Nat
  | .i8 => 1 | .i16 => 2 | .i32 => 3 | .i64 => 4 | .u8 => 5 | .u16 => 6 | .u32 => 7 | .u64 => 8
def keyOk (c : Nat) : Value → Bool
  | .string _ => c == 0
  | .int q _ => c == kcode q
  | _ => false
def keyEq : Value → Value → Bool
  | .int _ a, .int _ b => a == b
  | .string a, .string b => a == b
  | _, _ => false
def mkey (k : Value) : List Cel → Bool
  | .g k' :: _ => keyEq k k'
  | _ => false
/-- A map's entry. -/
def mget (k : Value) : List (List Cel) → Option Cel
  | [] => none
  | e :: es => if mkey k e then e[1]? else mget k es
def mput (k : Value) (c : Cel) : List (List Cel) → List (List Cel)
  | [] => [[.g k, c]]
  | e :: es => if mkey k e then [.g k, c] :: es else e :: mput k c es
inductive Ins where
  | mv (x : Opd)
  | pick (c a b : Opd)
  | alloc (zero : List Value)
  | box (x : Opd)
  | build (zero : List Value) (parts : List (Nat × Nat × Opd))
  | bslice (z len : Nat) (parts : List Opd)
  | load (agg : Bool) (n : Nat) (x : Opd)
  | store (n : Nat) (x v : Opd)
  | nilchk (x : Opd)
  | bin (op : BinOp) (x y : Opd)
  | eqs (neg agg : Bool) (ks : List KTy) (x y : Opd)
  | un (op : UnOp) (x : Opd)
  | conv (k : IntKind) (x : Opd)
  | mkfn (f : FuncId) (caps : List Opd)
  | slc (z : Nat) (x : Opd) (lo hi : Option Opd)
  | fadr (off : Nat) (x : Opd)
  | fld (off : Nat) (agg : Bool) (n : Nat) (x : Opd)
  | iadr (z : Nat) (x i : Opd)
  | idx (x i : Opd)
  | extr (x : Opd) (i : Nat)
  | len (x : Opd)
  | slen (x : Opd)
  | mnx (mx : Bool) (x y : Opd)
  | append (E : TypeId) (z bytes : Nat) (x y : Opd)
  | call (f : Opd) (args : List Opd)
  | callx (f : Opd) (args : List Opd)
  | chk (x : Opd) (key : Option Nat)
  | callm (f : Opd) (args : List Opd) (m : CAnn)
  | sfx (z : Nat) (x lo : Opd)
  | trn (z : Nat) (x hi : Opd)
  | clr (E : TypeId) (z : Nat) (zero : List Value) (x : Opd)
  | mkr (E : TypeId) (z bytes : Nat) (zero : List Value) (n c : Opd)
  | bslr (E : TypeId) (z len : Nat) (parts : List Opd)
  | mkm (kc : Nat)
  | mup (kc : Nat) (x k v : Opd)
  | mlk (kc : Nat) (zero : Value) (ok : Bool) (x k : Opd)
  | aadr (n z : Nat) (x i : Opd)
  | ssub (x : Opd) (lo hi : Option Opd)

abbrev iv (n : Int) : Val := .one (.g (.int .i64 n))
abbrev bv (b : Bool) : Val := .one (.g (.bool b))
abbrev ki (k : IntKind) (n : Int) : Val := .one (.g (.int k n))
abbrev sv (b : ByteArray) : Val := .one (.g (.string b))

def binS (s : AS) (d : Option Nat) (op : BinOp) : Val → Val → SRes
  | .one (.g (.int k a)), .one (.g (.int k' b)) => match op with
    | .add => if k = k' then .ok (s.put d (ki k (k.wrap (a + b)))) else .bad
    | .sub => if k = k' then .ok (s.put d (ki k (k.wrap (a - b)))) else .bad
    | .mul => if k = k' then .ok (s.put d (ki k (k.wrap (a * b)))) else .bad
    | .quo => if k = k' then .need (b ≠ 0) (s.put d (ki k (k.wrap (a.tdiv b)))) else .bad
    | .rem => if k = k' then .need (b ≠ 0) (s.put d (ki k (a.tmod b))) else .bad
    | .eql => if k = k' then .ok (s.put d (bv (a == b))) else .bad
    | .neq => if k = k' then .ok (s.put d (bv (a != b))) else .bad
    | .lss => if k = k' then .ok (s.put d (bv (decide (a < b)))) else .bad
    | .leq => if k = k' then .ok (s.put d (bv (decide (a ≤ b)))) else .bad
    | .gtr => if k = k' then .ok (s.put d (bv (decide (a > b)))) else .bad
    | .geq => if k = k' then .ok (s.put d (bv (decide (a ≥ b)))) else .bad
    | .and => if k = k' then .ok (s.put d (ki k (bits .and k a b))) else .bad
    | .or => if k = k' then .ok (s.put d (ki k (bits .or k a b))) else .bad
    | .xor => if k = k' then .ok (s.put d (ki k (bits .xor k a b))) else .bad
    | .shr => .need (0 ≤ b) (s.put d (ki k (a.fdiv (2 ^ (min b.toNat k.bits)))))
    | .shl => .need (0 ≤ b) (s.put d (ki k (k.wrap (a * 2 ^ (min b.toNat k.bits)))))
    | _ => .bad
  | .one (.g (.string a)), .one (.g (.string b)) => match op with
    | .add => .need (((a.size + b.size : Nat) : Int) ≤ 9223372036854775807) (s.put d (sv (a ++ b)))
    | .eql => .ok (s.put d (bv (a.toList == b.toList)))
    | .neq => .ok (s.put d (bv (!(a.toList == b.toList))))
    | .lss => .ok (s.put d (bv (Op.bytesLess a.toList b.toList)))
    | .leq => .ok (s.put d (bv (Op.bytesLess a.toList b.toList || a.toList == b.toList)))
    | .gtr => .ok (s.put d (bv (!(Op.bytesLess a.toList b.toList || a.toList == b.toList))))
    | .geq => .ok (s.put d (bv (!Op.bytesLess a.toList b.toList)))
    | _ => .bad
  | _, _ => .bad

def loadS (s : AS) (d : Option Nat) (agg : Bool) (n : Nat) (cs : List Cel) : SRes :=
  if agg then .need (n ≤ cs.length) (s.put d (.ag (cs.take n))) else match cs with
    | c :: _ => .ok (s.put d (.one c))
    | [] => .bad

/-- Cells that may be laid into memory that is not looked at as a box: plain data. -/
def dataC : Cel → Bool
  | .g _ => true
  | _ => false
/-- The limit of an operation whose address lies in a row. -/
abbrev RWK : Nat := 999999999

def estep (d : Option Nat) : Ins → AS → SRes
  | .mv x, s => .ok (s.put d (s.ev x))
  | .alloc zero, s => match d with
    | some k => match s.bx k with
      | none => if k = 0 then .bad else .ok { s with tm := upd s.tm k (.one (.bx k 0)), bx := upd s.bx k (some (zero.map .g)) }
      | some _ => .bad
    | none => .bad
  | .box x, s => match d, vcells (s.ev x) with
    | some k, some cs => match s.bx k with
      | none => if k = 0 then .bad else .ok { s with tm := upd s.tm k (.one (.bx k 0)), bx := upd s.bx k (some cs) }
      | some _ => .bad
    | _, _ => .bad
  | .build zero parts, s => match parts.foldl (fun acc p => match acc, vcells (s.ev p.2.2) with
      | some cs, some news => if news.length = p.2.1 ∧ p.1 + p.2.1 ≤ cs.length then some (wr cs p.1 news) else none
      | _, _ => none) (some (zero.map .g)) with
    | some cs => .ok (s.put d (.ag cs))
    | none => .bad
  | .bslice z len parts, s => match parts.mapM (fun p => vcells (s.ev p)) with
    | some es => if es.all (fun e => e.length = z && e.all Cel.isD) && parts.length = len then .ok (s.put d (.one (.sl (frE es) z es))) else .bad
    | none => .bad
  | .load agg n x, s => match s.ev x with
    | .one (.bx k off) => match s.bx k with
      | some cs => loadS s d agg n (cs.drop off)
      | none => .bad
    | .one (.ep cs) => loadS s d agg n (cs.map Cel.dat)
    | .one (.op k ver i off) => match s.rw k with
      | some r => if ver = r.ver then (match r.es[i]? with | some e => loadS s d agg n (e.drop off) | none => .bad) else .bad
      | none => .bad
    | _ => .bad
  | .store n x v, s => match s.ev x, vcells (s.ev v) with
    | .one (.bx k off), some news => match s.bx k with
      | some cs => if news.length = n then .need (off + n ≤ cs.length) ({ s with bx := upd s.bx k (some (wr cs off news)) }.put d .any) else .bad
      | none => .bad
    | .one (.op k ver i off), some news => match s.rw k with
      | some r => if ver = r.ver && news.length = n && news.all Cel.isD then (match r.es[i]? with
          | some e => .need (off + n ≤ e.length) ({ s with rw := upd s.rw k (some { r with es := r.es.set i (wr e off news) }) }.put d .any)
          | none => .bad) else .bad
      | none => .bad
    | _, _ => .bad
  | .nilchk x, s => match s.ev x with
    | .one (.bx k off) => .ok (s.put d (.one (.bx k off)))
    | .one (.ep cs) => .ok (s.put d (.one (.ep cs)))
    | .one (.op k ver i off) => match s.rw k with
      | some r => if ver = r.ver then .ok (s.put d (.one (.op k ver i off))) else .bad
      | none => .bad
    | _ => .bad
  | .bin op x y, s => binS s d op (s.ev x) (s.ev y)
  | .un op x, s => match op, s.ev x with
    | .not, .one (.g (.bool b)) => .ok (s.put d (bv (!b)))
    | .neg, .one (.g (.int k a)) => .ok (s.put d (ki k (k.wrap (0 - a))))
    | _, _ => .bad
  | .conv k x, s => match s.ev x with
    | .one (.g (.int _ a)) => .ok (s.put d (ki k (k.wrap a)))
    | _ => .bad
  | .mkfn f caps, s => match caps.mapM (fun p => match s.ev p with | .one (.bx k off) => some (Cel.bx k off) | .one (.g v) => some (Cel.g v) | _ => none) with
    | some cs => .ok (s.put d (.one (.fn f cs)))
    | none => .bad
  | .slc z x lo hi, s => match s.ev x, lo.map s.ev, hi.map s.ev with
    | .one (.sl fr z' es), none, none => if z = z' then .ok (s.put d (.one (.sl fr z es))) else .bad
    | .one (.sl fr z' es), some (.one (.g (.int _ l))), none => if z = z' then .need (0 ≤ l ∧ l ≤ es.length) (s.put d (.one (.sl fr z (es.drop l.toNat)))) else .bad
    | .one (.sl fr z' es), none, some (.one (.g (.int _ h))) => if z = z' then .need (0 ≤ h ∧ h ≤ es.length) (s.put d (.one (.sl fr z (es.take h.toNat)))) else .bad
    | .one (.sl fr z' es), some (.one (.g (.int _ l))), some (.one (.g (.int _ h))) => if z = z' then .need (0 ≤ l ∧ l ≤ h ∧ h ≤ es.length) (s.put d (.one (.sl fr z ((es.take h.toNat).drop l.toNat)))) else .bad
    | _, _, _ => .bad
  | .fadr off x, s => match s.ev x with
    | .one (.bx k o) => .ok (s.put d (.one (.bx k (o + off))))
    | .one (.ep cs) => .ok (s.put d (.one (.ep (cs.drop off))))
    | .one (.op k ver i o) => match s.rw k with
      | some r => if ver = r.ver then .ok (s.put d (.one (.op k ver i (o + off)))) else .bad
      | none => .bad
    | _ => .bad
  | .fld off agg n x, s => match s.ev x with
    | .ag cs => if agg then .need (off + n ≤ cs.length) (s.put d (.ag ((cs.drop off).take n))) else (match cs[off]? with | some c => .ok (s.put d (.one c)) | none => .bad)
    | _ => .bad
  | .iadr z x i, s => match s.ev x, s.ev i with
    | .one (.sl _ z' es), .one (.g (.int _ n)) => if z = z' then .need (0 ≤ n ∧ n < es.length) (s.put d (.one (.ep (es.getD n.toNat [])))) else .bad
    | .one (.ow k ver), .one (.g (.int _ n)) => match s.rw k with
      | some r => if ver = r.ver ∧ z = r.z then .need (0 ≤ n ∧ n < r.es.length) (s.put d (.one (.op k ver n.toNat 0))) else .bad
      | none => .bad
    | _, _ => .bad
  | .idx x i, s => match s.ev x, s.ev i with
    | .one (.g (.string b)), .one (.g (.int _ n)) => .need (0 ≤ n ∧ n < b.size) (s.put d (ki .u8 ((b.data.toList.getD n.toNat 0).toNat)))
    | _, _ => .bad
  | .extr x i, s => match s.ev x with
    | .tu vs => match vs[i]? with
      | some v => .ok (s.put d v)
      | none => .bad
    | _ => .bad
  | .len x, s => match s.ev x with
    | .one (.sl _ _ es) => .ok (s.put d (iv es.length))
    | .one (.g (.slice _ n _)) => .ok (s.put d (iv n))
    | .one (.ow k ver) => match s.rw k with
      | some r => if ver = r.ver then .ok (s.put d (iv r.es.length)) else .bad
      | none => .bad
    | _ => .bad
  | .slen x, s => match s.ev x with
    | .one (.g (.string b)) => .ok (s.put d (iv b.size))
    | _ => .bad
  | .mnx mx x y, s => match s.ev x, s.ev y with
    | .one (.g (.int k a)), .one (.g (.int _ b)) => .ok (s.put d (ki k (if mx then (if b > a then b else a) else (if b < a then b else a))))
    | _, _ => .bad
  | .append E z bytes x y, s => match s.ev x, s.src z (s.ev y) with
    | .one (.ow k ver), some es => match s.rw k with
      | some r => if ver = r.ver ∧ E = r.E ∧ z = r.z then
          .need ((r.es.length + es.length) * bytes ≤ 140737488355328 ∧ r.es.length + es.length ≤ 9223372036854775807)
            ({ s with rw := upd s.rw k (some { r with ver := r.ver + 1, es := r.es ++ es }) }.put d (.one (.ow k (r.ver + 1)))) else .bad
      | none => .bad
    | _, _ => .bad
  | .eqs neg agg ks x y, s => match eqV agg ks (s.ev x) (s.ev y) with
    | some b => .ok (s.put d (bv (if neg then !b else b)))
    | none => .bad
  | .pick _ _ _, _ => .bad
  | .call _ _, _ => .bad
  | .callx _ _, _ => .bad
  | .callm _ _ _, _ => .bad
  | .sfx z x lo, s => match s.ev x, s.ev lo with
    | .one (.ow k ver), .one (.g (.int _ l)) => match s.rw k with
      | some r => if ver = r.ver ∧ z = r.z then .need (0 ≤ l ∧ l ≤ r.es.length ∧ 0 < r.es.length) (s.put d (.one (.os k ver l.toNat))) else .bad
      | none => .bad
    | _, _ => .bad
  | .trn z x hi, s => match s.ev x, s.ev hi with
    | .one (.ow k ver), .one (.g (.int _ h)) => match s.rw k with
      | some r => if ver = r.ver ∧ z = r.z then .need (0 ≤ h ∧ h ≤ r.es.length ∧ 0 < r.es.length) ({ s with rw := upd s.rw k (some { r with ver := r.ver + 1, es := r.es.take h.toNat }) }.put d (.one (.ow k (r.ver + 1)))) else .bad
      | none => .bad
    | _, _ => .bad
  | .clr E z zero x, s => match s.ev x with
    | .one (.os k ver lo) => match s.rw k with
      | some r => if ver = r.ver ∧ E = r.E ∧ z = r.z ∧ zero.length = z then .ok ({ s with rw := upd s.rw k (some { r with es := r.es.take lo ++ List.replicate (r.es.length - lo) (zero.map Cel.g) }) }.put d .any) else .bad
      | none => .bad
    | _ => .bad
  | .mkr E z bytes zero n c, s => match d, s.ev n, s.ev c with
    | some k, .one (.g (.int _ m)), .one (.g (.int _ m')) => match s.rw k with
      | none => if k < XK ∧ 0 < z ∧ zero.length = z then .need (0 ≤ m ∧ m' = m ∧ m * bytes ≤ 281474976710656 ∧ m ≤ 9223372036854775807) { s with tm := upd s.tm k (.one (.ow k 0)), rw := upd s.rw k (some ⟨0, E, z, List.replicate m.toNat (zero.map Cel.g)⟩) } else .bad
      | some _ => .bad
    | _, _, _ => .bad
  | .bslr E z len parts, s => match d, parts.mapM (fun p => vcells (s.ev p)) with
    | some k, some es => match s.rw k with
      | none => if es.all (fun e => e.length = z && e.all Cel.isD) && parts.length = len && decide (k < XK) && decide (0 < z) then .ok { s with tm := upd s.tm k (.one (.ow k 0)), rw := upd s.rw k (some ⟨0, E, z, es⟩) } else .bad
      | some _ => .bad
    | _, _ => .bad
  | .mkm kc, s => match d with
    | some k => match s.rw k with
      | none => if k < XK then .ok { s with tm := upd s.tm k (.one (.mp k)), rw := upd s.rw k (some ⟨0, kc, 0, []⟩) } else .bad
      | some _ => .bad
    | none => .bad
  | .mup kc x kx vx, s => match s.ev x, s.ev kx, s.ev vx with
    | .one (.mp k), .one (.g kv), .one c => match s.rw k with
      | some r => if r.z = 0 ∧ r.E = kc ∧ keyOk kc kv = true ∧ c.isD = true then .ok ({ s with rw := upd s.rw k (some { r with es := mput kv c r.es }) }.put d .any) else .bad
      | none => .bad
    | _, _, _ => .bad
  | .mlk kc zero ok x kx, s => match s.ev x, s.ev kx with
    | .one (.mp k), .one (.g kv) => match s.rw k with
      | some r => if r.z = 0 ∧ r.E = kc ∧ keyOk kc kv = true then .ok (s.put d (if ok then .tu [.one ((mget kv r.es).getD (.g zero)), bv (mget kv r.es).isSome] else .one ((mget kv r.es).getD (.g zero)))) else .bad
      | none => .bad
    | _, _ => .bad
  | .aadr n z x i, s => match s.ev x, s.ev i with
    | .one (.bx k o), .one (.g (.int _ m)) => .need (0 ≤ m ∧ m < n) (s.put d (.one (.bx k (o + m.toNat * z))))
    | .one (.ep cs), .one (.g (.int _ m)) => .need (0 ≤ m ∧ m < n) (s.put d (.one (.ep (cs.drop (m.toNat * z)))))
    | _, _ => .bad
  | .ssub x lo hi, s => match s.ev x, lo.map s.ev, hi.map s.ev with
    | .one (.g (.string b)), none, none => .ok (s.put d (sv b))
    | .one (.g (.string b)), some (.one (.g (.int _ l))), none => .need (0 ≤ l ∧ l ≤ b.size) (s.put d (sv (b.extract l.toNat b.size)))
    | .one (.g (.string b)), none, some (.one (.g (.int _ h))) => .need (0 ≤ h ∧ h ≤ b.size) (s.put d (sv (b.extract 0 h.toNat)))
    | .one (.g (.string b)), some (.one (.g (.int _ l))), some (.one (.g (.int _ h))) => .need (0 ≤ l ∧ l ≤ h ∧ h ≤ b.size) (s.put d (sv (b.extract l.toNat h.toNat)))
    | _, _, _ => .bad
  | .chk x none, s => match s.ev x with
    | .one (.bx _ _) => .bad
    | .one (.ow _ _) => .bad
    | .one (.op _ _ _ _) => .bad
    | _ => .ok (s.put d .any)
  | .chk x (some k), s => match s.ev x with
    | .one (.bx j _) => if j = k then .ok (s.put d .any) else .bad
    | .one (.op _ _ _ _) => if k = RWK then .ok (s.put d .any) else .bad
    | _ => .bad

structure GI where
  dst : Option Nat
  gd : Option (Nat × Bool)
  ins : Ins

/-- Which slots, boxes and rows stay behind a region; none: all. -/
structure Keep where
  ts : List Nat
  bs : List Nat
  rs : List Nat

/-- The version of a row that is kept: rows that were handed over tell whether they are where they were. -/
def kv (k v : Nat) : Nat := if k < XK then 0 else min v 1
/-- Versions are told no more. -/
def kz (_ _ : Nat) : Nat := 0
/-- What stays, and with which versions. -/
structure Kp where
  ts : List Nat
  bs : List Nat
  rs : List Nat
  q : Nat → Nat → Nat
def Keep.at (K : Keep) (q : Nat → Nat → Nat) : Kp := ⟨K.ts, K.bs, K.rs, q⟩
/-- A row that is not kept as one becomes data. -/
def AS.renC (s : AS) (K : Kp) : Cel → Cel
  | .bx k off => if k ∈ K.bs then .bx k off else .any
  | .ow k ver => match s.rw k with
    | some r => if ver = r.ver then (if k ∈ K.rs then .ow k (K.q k ver) else if k < XK then .sl (frE r.es) r.z r.es else .any) else .any
    | none => .any
  | .op k ver i off => if k ∈ K.rs then (match s.rw k with | some r => if ver = r.ver then .op k (K.q k ver) i off else .any | none => .any) else .any
  | .fn f caps => if caps.all (fun c => match c with | .bx k _ => k ∈ K.bs | .g _ => true | .ep _ => true | _ => false) then .fn f caps else .any
  | .os _ _ _ => .any
  | .mp k => if k ∈ K.rs then .mp k else .any
  | c => c
def AS.ren (s : AS) (K : Kp) : Val → Val
  | .one c => .one (s.renC K c)
  | .ag cs => .ag (cs.map (s.renC K))
  | .tu _ => .any
  | .any => .any
def AS.keepK (s : AS) (K : Kp) : AS :=
  { tm := tabV (K.ts.map fun t => (t, s.ren K (s.tm t))), bx := tabO ((K.bs.filterMap fun k => (s.bx k).map fun cs => (k, cs.map (s.renC K)))),
    rw := tabO ((K.rs.filterMap fun k => (s.rw k).map fun r => (k, { r with ver := K.q k r.ver }))) }
def AS.keep (s : AS) : Option Keep → AS
  | none => s
  | some K => s.keepK (K.at kv)

inductive AC where
  | skip
  | reg (dr : Bool) (l : List GI) (kp : Option Keep)
  | seq (a b : AC)
  | cond (c : Opd) (a b : AC)
  | block (id : Nat) (a : AC)
  | loop (a : AC)
  | exit (id : Nat)
  | ret
  | own (slot : Nat) (E : TypeId) (z : Nat)
  | ownb (key : Nat) (E : TypeId) (z : Nat)
  | ty (slot z : Nat)

/-- A nil slice, as one of elements of z cells. -/
def tyV (z : Nat) : Val → Val
  | .one (.g (.slice none 0 _)) => .one (.sl true z [])
  | v => v

inductive RV where
  | t (n : Nat)
  | cell (n : Nat) (agg : Bool) (sz : Nat)

def AS.rv (s : AS) : RV → Option Val
  | .t n => some (s.fin (s.tm n))
  | .cell n agg sz => match s.tm n with
    | .one (.bx k off) => match s.bx k with
      | some cs => if agg then (if sz ≤ (cs.drop off).length then some (s.fin (.ag ((cs.drop off).take sz))) else none) else (match cs.drop off with | c :: _ => some (s.fin (.one c)) | [] => none)
      | none => none
    | _ => none
def AS.res (s : AS) (rs : List RV) : Option Val :=
  match rs.mapM s.rv with
  | some [v] => some v
  | some vs => some (.tu vs)
  | none => none

/-- Go's function f has a body of its own. -/
def hasBody (P : Program) (f : FuncId) : Prop := ∃ fn, P.funcs[f]? = some fn ∧ fn.body.isNone = false ∧ (fn.name == "runtime.NumGoroutine") = false

/-- A contract. ext: the cells of a box of the caller's, handed over as a pointer ahead of the other arguments; R: the box's cells behind the call, and the result. -/
def FC (P : Program) (f : FuncId) (ext : Option (List Cel)) (args : List Val) (R : List Cel → Val → Prop) : Prop :=
  hasBody P f ∧ ∀ (w : World) (okA : Nat → Prop) (g : Nat) (vs : List Value),
    (∀ cs, ext = some cs → ¬ okA g ∧ ∃ cur ty, w.heap[g]? = some (.cells cur ty (0, 0)) ∧ CsRel w okA w.heap.size Env.none cs cur.toList) →
    args.length = vs.length → (∀ (i : Nat) (x : Val) (u : Value), args[i]? = some x → vs[i]? = some u → VRel w okA w.heap.size Env.none x u) →
    Calls P f ((if ext.isSome then [Value.pointer (some ⟨g, 0, none⟩)] else []) ++ vs).toArray w fun e w' =>
      ∃ v cs' r, e = .returned v ∧ R cs' r ∧ w.grownBy w' (if ext.isSome then some g else none) ∧
        VRel w' (fun b => w.heap.size ≤ b ∨ okA b) w.heap.size Env.none r v ∧
        (ext.isSome = true → ∃ cur ty, w'.heap[g]? = some (.cells cur ty (0, 0)) ∧ CsRel w' (fun b => (w.heap.size ≤ b ∨ okA b) ∧ b ≠ g) w.heap.size Env.none cs' cur.toList)


end Go.Ai

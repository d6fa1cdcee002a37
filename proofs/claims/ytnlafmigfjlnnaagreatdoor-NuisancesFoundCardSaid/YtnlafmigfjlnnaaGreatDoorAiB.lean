/- The abstract layer. -/
import Derived.WalkKit
import Derived.Orders
import Derived.Maps.AppendAt
import Derived.Laws.CopyRow
import Derived.Deep.Draws
import Derived.IntWalk
import Derived.Lib.LaidTab
import Derived.Laws.OwnMore
import Derived.Laws.StructEq
import Derived.ChangeKeysEq
import Derived.MapKept
import Derived.Lib.AppendStr
import Derived.Laws.IdiomStrings
set_option linter.all false
namespace Go.Ai
open Go
inductive Cel where
 | g (v : Value)
 | sl (fr : Bool) (z : Nat) (es : List (List Cel))
 | ep (cs : List Cel)
 | bx (k off : Nat)
 | ow (k ver : Nat)
 | op (k ver i off : Nat)
 | os (k ver lo : Nat)
 | ws (k ver lo hi : Nat)
 | mp (k : Nat)
 | fm (kc : Nat) (es : List (List Cel))
 | fn (f : FuncId) (caps : List Cel)
 | any
inductive Val where
 | one (c : Cel)
 | ag (cs : List Cel)
 | tu (vs : List Val)
 | any
structure Env where
 gm : Nat -> Option Nat
 rm : Nat -> Option (Nat × Nat × Value)
def Env.none : Env := ⟨fun _ => Option.none, fun _ => Option.none⟩
def a2n : IntKind -> Nat
 | .i8 => 1 | .i16 => 2 | .i32 => 3 | .i64 => 4 | .u8 => 5 | .u16 => 6 | .u32 => 7 | .u64 => 8
def l8 (c : Nat) : Value -> Bool
 | .string _ => c % 16 == 0
 | .int q _ => c % 16 == a2n q
 | _ => false
def a0z : Value -> Value
 | .agg cs => .iface 0 (.agg cs)
 | v => v
def vOk (c : Nat) (v : Value) : Prop := if c < 16 then v.oneCell' = true else ∃ vs : List Value, v = .agg vs.toArray ∧ ∀ x ∈ vs, x.oneCell' = true
theorem a2Y {v : Value} (h : v.oneCell' = true) : a0z v = v := by
 cases v <;> first | rfl | (simp [Value.oneCell'] at h)
inductive DRel (w : World) (ok : Nat -> Prop) : Cel -> Value -> Prop
 | g {v : Value} : v.oneCell' = true -> DRel w ok (.g v) v
 | any {v : Value} : v.oneCell' = true -> DRel w ok .any v
 | nil {fr : Bool} {z : Nat} {a : Option Addr} {c : Nat} : DRel w ok (.sl fr z []) (.slice a 0 c)
 | sl {fr : Bool} {z : Nat} {es : List (List Cel)} {b off n c : Nat} (us : Nat -> Nat -> Value) : n = es.length -> n <= c -> ok b -> b < w.heap.size -> (∀ e ∈ es, e.length = z) ->
   (∀ i e j x, es[i]? = some e -> e[j]? = some x -> w.cell? ⟨b, off + i * z + j, none⟩ = some (us i j)) ->
   (∀ i e j x, es[i]? = some e -> e[j]? = some x -> DRel w ok x (us i j)) -> DRel w ok (.sl fr z es) (.slice (some ⟨b, off, none⟩) n c)
 | fm {kc : Nat} {es : List (List Cel)} {b clock : Nat} {ms : Array MapEntry} (cs : Nat -> Cel) : ok b -> b < w.heap.size -> w.heap[b]? = some (.map ms clock) -> es.length = ms.size ->
   (∀ i e, ms.toList[i]? = some e -> l8 kc e.key = true ∧ es[i]? = some [.g e.key, cs i] ∧ vOk kc e.val) -> (∀ i e, ms.toList[i]? = some e -> DRel w ok (cs i) (a0z e.val)) -> DRel w ok (.fm kc es) (.map (some b))
def CRel0 (w : World) (ok : Nat -> Prop) (base : Nat) (E : Env) : Cel -> Value -> Prop
 | .g u, v => v = u ∧ u.oneCell' = true
 | .sl fr z es, v => DRel w (if fr then (fun b => base <= b ∧ ok b) else ok) (.sl fr z es) v
 | .ep cs, v => ∃ (b off : Nat) (us : Nat -> Value), v = .pointer (some ⟨b, off, none⟩) ∧ ok b ∧ b < w.heap.size ∧ ∀ (j : Nat) (x : Cel), cs[j]? = some x -> w.cell? ⟨b, off + j, none⟩ = some (us j) ∧ DRel w ok x (us j)
 | .bx k off, v => ∃ g, E.gm k = some g ∧ v = .pointer (some ⟨g, off, none⟩)
 | .ow k ver, v => v.oneCell' = true ∧ ∃ ver' z u, E.rm k = some (ver', z, u) ∧ ver <= ver' ∧ (ver = ver' -> v = u) ∧ 0 < z
 | .op k ver i off, v => v.oneCell' = true ∧ ∃ ver' z u, E.rm k = some (ver', z, u) ∧ ver <= ver' ∧ (ver = ver' -> ∃ g n c, u = .slice (some ⟨g, 0, none⟩) n c ∧ v = .pointer (some ⟨g, i * z + off, none⟩)) ∧ 0 < z
 | .os k ver lo, v => v.oneCell' = true ∧ ∃ ver' z u, E.rm k = some (ver', z, u) ∧ ver <= ver' ∧ (ver = ver' -> ∃ g n c A, u = .slice (some ⟨g, 0, none⟩) n c ∧ lo <= n ∧ v = .slice (some A) (n - lo) (c - lo) ∧ (lo < n -> A = ⟨g, lo * z, none⟩)) ∧ 0 < z
 | .ws k ver lo hi, v => v.oneCell' = true ∧ ∃ ver' z u, E.rm k = some (ver', z, u) ∧ ver <= ver' ∧ (ver = ver' -> ∃ g n c A c', u = .slice (some ⟨g, 0, none⟩) n c ∧ lo <= hi ∧ hi <= n ∧ v = .slice (some A) (hi - lo) c' ∧ hi - lo <= c' ∧ (lo < hi -> A = ⟨g, lo * z, none⟩)) ∧ 0 < z
 | .mp k, v => v.oneCell' = true ∧ ∃ ver' u, E.rm k = some (ver', 0, u) ∧ v = u
 | .fm kc es, v => DRel w ok (.fm kc es) v
 | .fn _ _, _ => False
 | .any, v => v.oneCell' = true
def CRel (w : World) (ok : Nat -> Prop) (base : Nat) (E : Env) : Cel -> Value -> Prop
 | .fn f caps, v => ∃ us : List Value, v = .func (.func f) #[] us.toArray ∧ caps.length = us.length ∧ ∀ (i : Nat) (c : Cel) (u : Value), caps[i]? = some c -> us[i]? = some u -> CRel0 w ok base E c u
 | c, v => CRel0 w ok base E c v
def CsRel (w : World) (ok : Nat -> Prop) (base : Nat) (E : Env) (cs : List Cel) (us : List Value) : Prop :=
 cs.length = us.length ∧ ∀ (i : Nat) (c : Cel) (u : Value), cs[i]? = some c -> us[i]? = some u -> CRel w ok base E c u
inductive VRel (w : World) (ok : Nat -> Prop) (base : Nat) (E : Env) : Val -> Value -> Prop
 | one {c : Cel} {v : Value} : CRel w ok base E c v -> VRel w ok base E (.one c) v
 | ag {cs : List Cel} {us : List Value} : CsRel w ok base E cs us -> VRel w ok base E (.ag cs) (.agg us.toArray)
 | tu {vs : List Val} {us : List Value} : vs.length = us.length -> (∀ (i : Nat) (x : Val) (u : Value), vs[i]? = some x -> us[i]? = some u -> VRel w ok base E x u) -> VRel w ok base E (.tu vs) (.tuple us.toArray)
 | any {v : Value} : VRel w ok base E .any v
structure Row where
 ver : Nat
 E : TypeId
 z : Nat
 es : List (List Cel)
structure AS where
 tm : Nat -> Val
 bx : Nat -> Option (List Cel)
 rw : Nat -> Option Row
structure Hp where
 bs : List (Nat × List Cel)
 rs : List (Nat × Row)
def upd {α : Type} (f : Nat -> α) (k : Nat) (v : α) : Nat -> α := fun j => if j = k then v else f j
def m7 : List (Nat × Val) -> Nat -> Val
 | [], _ => .any
 | (k, v) :: l, n => if n = k then v else m7 l n
def f7 {α : Type} : List (Nat × α) -> Nat -> Option α
 | [], _ => none
 | (k, v) :: l, n => if n = k then some v else f7 l n
def gvs : List Cel -> Option (List Value)
 | [] => some []
 | .g v :: cs => (gvs cs).map (v :: ·)
 | _ => none
def b0u (kc : Nat) : Val -> Option Cel
 | .one c => if kc < 16 then some c else none
 | .ag cs => if kc < 16 then none else (gvs cs).map fun vs => .g (.iface 0 (.agg vs.toArray))
 | _ => none
def c7r : Cel -> Val
 | .g (.iface _ (.agg cs)) => .ag (cs.toList.map .g)
 | _ => .any
def a2O (kc : Nat) (c : Cel) : Val := if kc < 16 then .one c else c7r c
def c4g (b : ByteArray) : List (List Cel) := b.data.toList.map fun x => [.g (.int .u8 (x.toNat : Int))]
def d4E : Val -> Val
 | .one (.g (.string b)) => .one (.sl true 1 (c4g b))
 | _ => .any
def d4K : List Cel -> Option UInt8
 | [.g (.int .u8 n)] => if 0 <= n ∧ n <= 255 then some (UInt8.ofNat n.toNat) else none
 | _ => none
def c1M : List (List Cel) -> Option (List UInt8)
 | [] => some []
 | e :: es => match d4K e, c1M es with
  | some b, some l => some (b :: l)
  | _, _ => none
def d5E : Val -> Val
 | .one (.sl _ 1 (e :: es)) => match c1M (e :: es) with
  | some l => .one (.g (.string ⟨l.toArray⟩))
  | none => .any
 | _ => .any
inductive Opd where
 | b (n : Nat)
 | s (n : Nat)
 | t (n : Nat)
 | v (x : Value)
 | f (n : FuncId)
def Cel.isD : Cel -> Bool
 | .g _ => true
 | .sl _ _ _ => true
 | .fm _ _ => true
 | .any => true
 | _ => false
def o6 (c : Cel) : Bool := match c with | .g _ | .sl true _ _ | .any => true | _ => false
def frE (es : List (List Cel)) : Bool := es.all fun e => e.all o6
def XK : Nat := 1000000
def ofV : Value -> Val
 | .agg cs => .ag (cs.toList.map .g)
 | v => .one (.g v)
def AS.ev (s : AS) : Opd -> Val
 | .t n => s.tm n
 | .v x => ofV x
 | .f n => .one (.fn n [])
 | .b n => d4E (s.tm n)
 | .s n => d5E (s.tm n)
def AS.put (s : AS) (d : Option Nat) (v : Val) : AS :=
 match d with
 | some d => { s with tm := upd s.tm d v }
 | none => s
def AS.dataV (s : AS) : Cel -> Cel
 | .g v => .g v
 | .sl _ z es => .sl false z es
 | .fm kc es => .fm kc es
 | .mp k => match s.rw k with
  | some r => .fm r.E r.es
  | none => .any
 | .ow k ver => match s.rw k with
  | some r => if ver = r.ver then .sl false r.z r.es else .any
  | none => .any
 | _ => .any
def AS.viewC0 (s : AS) : Cel -> Cel
 | .sl _ z es => .sl false z es
 | .ow k ver => match s.rw k with
  | some r => if ver = r.ver then .sl false r.z r.es else .any
  | none => .any
 | .bx k off => match s.bx k with
  | some cs => .ep ((cs.drop off).map s.dataV)
  | none => .any
 | .op k ver i off => match s.rw k with
  | some r => if ver = r.ver then (match r.es[i]? with | some e => .ep (e.drop off) | none => .any) else .any
  | none => .any
 | .fn _ _ => .any
 | .os _ _ _ => .any
 | .ws k ver lo hi => match s.rw k with
  | some r => if ver = r.ver then .sl false r.z ((r.es.take hi).drop lo) else .any
  | none => .any
 | .mp k => match s.rw k with
  | some r => .fm r.E r.es
  | none => .any
 | c => c
def AS.viewC (s : AS) : Cel -> Cel
 | .fn f caps => .fn f (caps.map s.viewC0)
 | c => s.viewC0 c
def AS.view (s : AS) : Val -> Val
 | .one c => .one (s.viewC c)
 | .ag cs => .ag (cs.map s.viewC)
 | _ => .any
def AS.finC (s : AS) : Cel -> Cel
 | .ow k ver => match s.rw k with
  | some r => if ver = r.ver then (if k < XK then .sl (frE r.es) r.z r.es else .any) else .any
  | none => .any
 | .bx _ _ => .any
 | .op _ _ _ _ => .any
 | .fn _ _ => .any
 | .os _ _ _ => .any
 | .ws _ _ _ _ => .any
 | .mp k => match s.rw k with
  | some r => if k < XK then .fm r.E r.es else .any
  | none => .any
 | c => c
def AS.fin (s : AS) : Val -> Val
 | .one c => .one (s.finC c)
 | .ag cs => .ag (cs.map s.finC)
 | _ => .any
def Cel.dat : Cel -> Cel
 | .sl _ z es => .sl false z es
 | c => c
def Cel.tof : Cel -> Cel
 | .sl _ z es => .sl true z es
 | c => c
def F8 (es : List (List Cel)) : List (List Cel) := es.map (List.map Cel.dat)
def a0k (es : List (List Cel)) : List (List Cel) := es.map (List.map Cel.tof)
def AS.src (s : AS) (z : Nat) : Val -> Option (List (List Cel))
 | .one (.sl fr z' es) => if z' = z then some (if fr then a0k es else F8 es) else none
 | .one (.g (.slice none 0 _)) => some []
 | .one (.ow k ver) => match s.rw k with
  | some r => if ver = r.ver ∧ r.z = z then some r.es else none
  | none => none
 | _ => none
def t6 : Val -> Option (List Cel)
 | .one c => some [c]
 | .ag cs => some cs
 | _ => none
def wr {α : Type} (cs : List α) (off : Nat) (news : List α) : List α := cs.take off ++ news ++ cs.drop (off + news.length)
inductive SRes where
 | ok (s : AS)
 | need (p : Prop) (s : AS)
 | bad
inductive KTy where
 | i (k : IntKind)
 | b
 | s
 | ns
 | np
 | ni
def eqK : KTy -> Cel -> Cel -> Option Bool
 | .i k, .g (.int k1 a), .g (.int k2 b) => if k1 = k ∧ k2 = k then some (decide (a = b)) else none
 | .b, .g (.bool a), .g (.bool b) => some (decide (a = b))
 | .s, .g (.string a), .g (.string b) => some (a.toList == b.toList)
 | .ns, .sl _ _ (_ :: _), .g (.slice none _ _) => some false
 | .ns, .g (.slice none _ _), .g (.slice none _ _) => some true
 | .np, .bx _ _, .g (.pointer none) => some false
 | .np, .ep _, .g (.pointer none) => some false
 | .np, .g (.pointer none), .g (.pointer none) => some true
 | .ni, .g .nilIface, .g .nilIface => some true
 | .ni, .g (.iface _ _), .g .nilIface => some false
 | _, _, _ => none
def eqL : List KTy -> List Cel -> List Cel -> Option Bool
 | [], [], [] => some true
 | k :: ks, c :: cs, d :: ds => match eqK k c d, eqL ks cs ds with
  | some a, some b => some (a && b)
  | _, _ => none
 | _, _, _ => none
def eqV (agg : Bool) (ks : List KTy) : Val -> Val -> Option Bool
 | .ag cs, .ag ds => if agg then eqL ks cs ds else none
 | .one c, .one d => if agg then none else eqL ks [c] [d]
 | _, _ => none
structure CAnn where
 bks : List Nat
 rks : List Nat
 obs : List Nat
 ors : List Nat
 sts : List Nat
def a3W : Value -> Value -> Bool
 | .int _ a, .int _ b => a == b
 | .string a, .string b => a == b
 | _, _ => false
def a2U (k : Value) : List Cel -> Bool
 | .g k' :: _ => a3W k k'
 | _ => false
def Z3 (k : Value) : List (List Cel) -> Option Cel
 | [] => none
 | e :: es => if a2U k e then e[1]? else Z3 k es
def a4u (k : Value) (c : Cel) : List (List Cel) -> List (List Cel)
 | [] => [[.g k, c]]
 | e :: es => if a2U k e then [.g k, c] :: es else e :: a4u k c es
def a9E (k : Value) : List (List Cel) -> List (List Cel)
 | [] => []
 | e :: es => if a2U k e then es else e :: a9E k es
def O7 (k : Value) : List (List Cel) -> Option Cel
 | [] => none
 | e :: es => if a2U k e then (e[1]?).map Cel.dat else O7 k es
def a0d (z : Nat) : Value -> Cel
 | .slice none 0 0 => if z = 0 then .g (.slice none 0 0) else .sl false z []
 | v => .g v
inductive Ins where
 | mv (x : Opd)
 | pick (c a b : Opd)
 | alloc (zero : List Value)
 | box (x : Opd)
 | build (zero : List Value) (parts : List (Nat × Nat × Opd))
 | bslice (z len : Nat) (parts : List Opd)
 | load (agg : Bool) (n : Nat) (x : Opd)
 | store (n : Nat) (x v : Opd)
 | nilchk (x : Opd)
 | bin (op : BinOp) (x y : Opd)
 | eqs (neg agg : Bool) (ks : List KTy) (x y : Opd)
 | un (op : UnOp) (x : Opd)
 | conv (k : IntKind) (x : Opd)
 | mkfn (f : FuncId) (caps : List Opd)
 | slc (z : Nat) (x : Opd) (lo hi : Option Opd)
 | fadr (off : Nat) (x : Opd)
 | iadr (z : Nat) (x i : Opd)
 | idx (x i : Opd)
 | extr (x : Opd) (i : Nat)
 | len (x : Opd)
 | slen (x : Opd)
 | mnx (mx : Bool) (x y : Opd)
 | append (E : TypeId) (z bytes : Nat) (x y : Opd)
 | call (f : Opd) (args : List Opd)
 | callx (f : Opd) (args : List Opd)
 | chk (x : Opd) (key : Option Nat)
 | callm (f : Opd) (args : List Opd) (m : CAnn)
 | sfx (z : Nat) (x lo : Opd)
 | trn (z : Nat) (x hi : Opd)
 | clr (E : TypeId) (z : Nat) (zero : List Value) (x : Opd)
 | mkr (E : TypeId) (z bytes : Nat) (zero : List Value) (n c : Opd)
 | mkm (kc : Nat)
 | mup (kc : Nat) (x k v : Opd)
 | mlk (kc : Nat) (zero : Value) (ok : Bool) (z : Nat) (x k : Opd)
 | mdl (kc : Nat) (x k : Opd)
 | aadr (n z : Nat) (x i : Opd)
 | ssub (x : Opd) (lo hi : Option Opd)
abbrev iv (n : Int) : Val := .one (.g (.int .i64 n))
abbrev bv (b : Bool) : Val := .one (.g (.bool b))
abbrev ki (k : IntKind) (n : Int) : Val := .one (.g (.int k n))
abbrev sv (b : ByteArray) : Val := .one (.g (.string b))
def L0 (s : AS) (d : Option Nat) (op : BinOp) : Val -> Val -> SRes
 | .one (.g (.int k a)), .one (.g (.int k' b)) => match op with
  | .add => if k = k' then .ok (s.put d (ki k (k.wrap (a + b)))) else .bad
  | .sub => if k = k' then .ok (s.put d (ki k (k.wrap (a - b)))) else .bad
  | .mul => if k = k' then .ok (s.put d (ki k (k.wrap (a * b)))) else .bad
  | .quo => if k = k' then .need (b ≠ 0) (s.put d (ki k (k.wrap (a.tdiv b)))) else .bad
  | .rem => if k = k' then .need (b ≠ 0) (s.put d (ki k (a.tmod b))) else .bad
  | .eql => if k = k' then .ok (s.put d (bv (a == b))) else .bad
  | .neq => if k = k' then .ok (s.put d (bv (a != b))) else .bad
  | .lss => if k = k' then .ok (s.put d (bv (decide (a < b)))) else .bad
  | .leq => if k = k' then .ok (s.put d (bv (decide (a <= b)))) else .bad
  | .gtr => if k = k' then .ok (s.put d (bv (decide (a > b)))) else .bad
  | .geq => if k = k' then .ok (s.put d (bv (decide (a >= b)))) else .bad
  | .and => if k = k' then .ok (s.put d (ki k (bits .and k a b))) else .bad
  | .or => if k = k' then .ok (s.put d (ki k (bits .or k a b))) else .bad
  | .xor => if k = k' then .ok (s.put d (ki k (bits .xor k a b))) else .bad
  | .shr => .need (0 <= b) (s.put d (ki k (a.fdiv (2 ^ (min b.toNat k.bits)))))
  | .shl => .need (0 <= b) (s.put d (ki k (k.wrap (a * 2 ^ (min b.toNat k.bits)))))
  | _ => .bad
 | .one (.g (.string a)), .one (.g (.string b)) => match op with
  | .add => .need (((a.size + b.size : Nat) : Int) <= 9223372036854775807) (s.put d (sv (a ++ b)))
  | .eql => .ok (s.put d (bv (a.toList == b.toList)))
  | .neq => .ok (s.put d (bv (!(a.toList == b.toList))))
  | .lss => .ok (s.put d (bv (Op.bytesLess a.toList b.toList)))
  | .leq => .ok (s.put d (bv (Op.bytesLess a.toList b.toList || a.toList == b.toList)))
  | .gtr => .ok (s.put d (bv (!(Op.bytesLess a.toList b.toList || a.toList == b.toList))))
  | .geq => .ok (s.put d (bv (!Op.bytesLess a.toList b.toList)))
  | _ => .bad
 | _, _ => .bad
def Q0 (s : AS) (d : Option Nat) (agg : Bool) (n : Nat) (cs : List Cel) : SRes :=
 if agg then .need (n <= cs.length) (s.put d (.ag (cs.take n))) else match cs with
  | c :: _ => .ok (s.put d (.one c))
  | [] => .bad
abbrev RWK : Nat := 999999999
def c9 (d : Option Nat) : Ins -> AS -> SRes
 | .mv x, s => .ok (s.put d (s.ev x))
 | .alloc zero, s => match d with
  | some k => match s.bx k with
   | none => if k = 0 then .bad else .ok { s with tm := upd s.tm k (.one (.bx k 0)), bx := upd s.bx k (some (zero.map .g)) }
   | some _ => .bad
  | none => .bad
 | .box x, s => match d, t6 (s.ev x) with
  | some k, some cs => match s.bx k with
   | none => if k = 0 then .bad else .ok { s with tm := upd s.tm k (.one (.bx k 0)), bx := upd s.bx k (some cs) }
   | some _ => .bad
  | _, _ => .bad
 | .build zero parts, s => match parts.foldl (fun acc p => match acc, t6 (s.ev p.2.2) with
   | some cs, some news => if news.length = p.2.1 ∧ p.1 + p.2.1 <= cs.length then some (wr cs p.1 news) else none
   | _, _ => none) (some (zero.map .g)) with
  | some cs => .ok (s.put d (.ag cs))
  | none => .bad
 | .bslice z len parts, s => match parts.mapM (fun p => t6 (s.ev p)) with
  | some es => if es.all (fun e => e.length = z && e.all Cel.isD) && parts.length = len then .ok (s.put d (.one (.sl (frE es) z es))) else .bad
  | none => .bad
 | .load agg n x, s => match s.ev x with
  | .one (.bx k off) => match s.bx k with
   | some cs => Q0 s d agg n (cs.drop off)
   | none => .bad
  | .one (.ep cs) => Q0 s d agg n (cs.map Cel.dat)
  | .one (.op k ver i off) => match s.rw k with
   | some r => if ver = r.ver then (match r.es[i]? with | some e => Q0 s d agg n (e.drop off) | none => .bad) else .bad
   | none => .bad
  | _ => .bad
 | .store n x v, s => match s.ev x, t6 (s.ev v) with
  | .one (.bx k off), some news => match s.bx k with
   | some cs => if news.length = n then .need (off + n <= cs.length) ({ s with bx := upd s.bx k (some (wr cs off news)) }.put d .any) else .bad
   | none => .bad
  | .one (.op k ver i off), some news => match s.rw k with
   | some r => if ver = r.ver && news.length = n && news.all Cel.isD then (match r.es[i]? with
     | some e => .need (off + n <= e.length) ({ s with rw := upd s.rw k (some { r with es := r.es.set i (wr e off news) }) }.put d .any)
     | none => .bad) else .bad
   | none => .bad
  | _, _ => .bad
 | .nilchk x, s => match s.ev x with
  | .one (.bx k off) => .ok (s.put d (.one (.bx k off)))
  | .one (.ep cs) => .ok (s.put d (.one (.ep cs)))
  | .one (.op k ver i off) => match s.rw k with
   | some r => if ver = r.ver then .ok (s.put d (.one (.op k ver i off))) else .bad
   | none => .bad
  | _ => .bad
 | .bin op x y, s => L0 s d op (s.ev x) (s.ev y)
 | .un op x, s => match op, s.ev x with
  | .not, .one (.g (.bool b)) => .ok (s.put d (bv (!b)))
  | .neg, .one (.g (.int k a)) => .ok (s.put d (ki k (k.wrap (0 - a))))
  | _, _ => .bad
 | .conv k x, s => match s.ev x with
  | .one (.g (.int _ a)) => .ok (s.put d (ki k (k.wrap a)))
  | _ => .bad
 | .mkfn f caps, s => match caps.mapM (fun p => match s.ev p with | .one (.bx k off) => some (Cel.bx k off) | .one (.g v) => some (Cel.g v) | _ => none) with
  | some cs => .ok (s.put d (.one (.fn f cs)))
  | none => .bad
 | .slc z x lo hi, s => match s.ev x, lo.map s.ev, hi.map s.ev with
  | .one (.sl fr z' es), none, none => if z = z' then .ok (s.put d (.one (.sl fr z es))) else .bad
  | .one (.sl fr z' es), some (.one (.g (.int _ l))), none => if z = z' then .need (0 <= l ∧ l <= es.length) (s.put d (.one (.sl fr z (es.drop l.toNat)))) else .bad
  | .one (.sl fr z' es), none, some (.one (.g (.int _ h))) => if z = z' then .need (0 <= h ∧ h <= es.length) (s.put d (.one (.sl fr z (es.take h.toNat)))) else .bad
  | .one (.sl fr z' es), some (.one (.g (.int _ l))), some (.one (.g (.int _ h))) => if z = z' then .need (0 <= l ∧ l <= h ∧ h <= es.length) (s.put d (.one (.sl fr z ((es.take h.toNat).drop l.toNat)))) else .bad
  | .one (.ow k ver), some (.one (.g (.int _ l))), some (.one (.g (.int _ h))) => match s.rw k with
   | some r => if ver = r.ver ∧ z = r.z then .need (0 <= l ∧ l <= h ∧ h <= r.es.length ∧ 0 < r.es.length) (s.put d (.one (.ws k ver l.toNat h.toNat))) else .bad
   | none => .bad
  | _, _, _ => .bad
 | .fadr off x, s => match s.ev x with
  | .one (.bx k o) => .ok (s.put d (.one (.bx k (o + off))))
  | .one (.ep cs) => .ok (s.put d (.one (.ep (cs.drop off))))
  | .one (.op k ver i o) => match s.rw k with
   | some r => if ver = r.ver then .ok (s.put d (.one (.op k ver i (o + off)))) else .bad
   | none => .bad
  | _ => .bad
 | .iadr z x i, s => match s.ev x, s.ev i with
  | .one (.sl _ z' es), .one (.g (.int _ n)) => if z = z' then .need (0 <= n ∧ n < es.length) (s.put d (.one (.ep (es.getD n.toNat [])))) else .bad
  | .one (.ow k ver), .one (.g (.int _ n)) => match s.rw k with
   | some r => if ver = r.ver ∧ z = r.z then .need (0 <= n ∧ n < r.es.length) (s.put d (.one (.op k ver n.toNat 0))) else .bad
   | none => .bad
  | .one (.os k ver lo), .one (.g (.int _ n)) => match s.rw k with
   | some r => if ver = r.ver ∧ z = r.z then .need (0 <= n ∧ lo + n < r.es.length) (s.put d (.one (.op k ver (lo + n.toNat) 0))) else .bad
   | none => .bad
  | _, _ => .bad
 | .idx x i, s => match s.ev x, s.ev i with
  | .one (.g (.string b)), .one (.g (.int _ n)) => .need (0 <= n ∧ n < b.size) (s.put d (ki .u8 ((b.data.toList.getD n.toNat 0).toNat)))
  | _, _ => .bad
 | .extr x i, s => match s.ev x with
  | .tu vs => match vs[i]? with
   | some v => .ok (s.put d v)
   | none => .bad
  | _ => .bad
 | .len x, s => match s.ev x with
  | .one (.sl _ _ es) => .ok (s.put d (iv es.length))
  | .one (.g (.slice _ n _)) => .ok (s.put d (iv n))
  | .one (.ow k ver) => match s.rw k with
   | some r => if ver = r.ver then .ok (s.put d (iv r.es.length)) else .bad
   | none => .bad
  | .one (.os k ver lo) => match s.rw k with
   | some r => if ver = r.ver then .ok (s.put d (iv (r.es.length - lo))) else .bad
   | none => .bad
  | _ => .bad
 | .slen x, s => match s.ev x with
  | .one (.g (.string b)) => .ok (s.put d (iv b.size))
  | _ => .bad
 | .mnx mx x y, s => match s.ev x, s.ev y with
  | .one (.g (.int k a)), .one (.g (.int _ b)) => .ok (s.put d (ki k (if mx then (if b > a then b else a) else (if b < a then b else a))))
  | _, _ => .bad
 | .append E z bytes x y, s => match s.ev x, s.src z (s.ev y) with
  | .one (.ow k ver), some es => match s.rw k with
   | some r => if ver = r.ver ∧ E = r.E ∧ z = r.z then
     .need ((r.es.length + es.length) * bytes <= 140737488355328 ∧ r.es.length + es.length <= 9223372036854775807)
      ({ s with rw := upd s.rw k (some { r with ver := r.ver + 1, es := r.es ++ es }) }.put d (.one (.ow k (r.ver + 1)))) else .bad
   | none => .bad
  | _, _ => .bad
 | .eqs neg agg ks x y, s => match eqV agg ks (s.ev x) (s.ev y) with
  | some b => .ok (s.put d (bv (if neg then !b else b)))
  | none => .bad
 | .pick _ _ _, _ => .bad
 | .call _ _, _ => .bad
 | .callx _ _, _ => .bad
 | .callm _ _ _, _ => .bad
 | .sfx z x lo, s => match s.ev x, s.ev lo with
  | .one (.ow k ver), .one (.g (.int _ l)) => match s.rw k with
   | some r => if ver = r.ver ∧ z = r.z then .need (0 <= l ∧ l <= r.es.length ∧ 0 < r.es.length) (s.put d (.one (.os k ver l.toNat))) else .bad
   | none => .bad
  | _, _ => .bad
 | .trn z x hi, s => match s.ev x, s.ev hi with
  | .one (.ow k ver), .one (.g (.int _ h)) => match s.rw k with
   | some r => if ver = r.ver ∧ z = r.z then .need (0 <= h ∧ h <= r.es.length ∧ 0 < r.es.length) ({ s with rw := upd s.rw k (some { r with ver := r.ver + 1, es := r.es.take h.toNat }) }.put d (.one (.ow k (r.ver + 1)))) else .bad
   | none => .bad
  | _, _ => .bad
 | .clr E z zero x, s => match s.ev x with
  | .one (.os k ver lo) => match s.rw k with
   | some r => if ver = r.ver ∧ E = r.E ∧ z = r.z ∧ zero.length = z then .ok ({ s with rw := upd s.rw k (some { r with es := r.es.take lo ++ List.replicate (r.es.length - lo) (zero.map Cel.g) }) }.put d .any) else .bad
   | none => .bad
  | _ => .bad
 | .mkr E z bytes zero n c, s => match d, s.ev n, s.ev c with
  | some k, .one (.g (.int _ m)), .one (.g (.int _ m')) => match s.rw k with
   | none => if k < XK ∧ 0 < z ∧ zero.length = z then .need (0 <= m ∧ m' = m ∧ m * bytes <= 281474976710656 ∧ m <= 9223372036854775807) { s with tm := upd s.tm k (.one (.ow k 0)), rw := upd s.rw k (some ⟨0, E, z, List.replicate m.toNat (zero.map Cel.g)⟩) } else .bad
   | some _ => .bad
  | _, _, _ => .bad
 | .mkm kc, s => match d with
  | some k => match s.rw k with
   | none => if k < XK then .ok { s with tm := upd s.tm k (.one (.mp k)), rw := upd s.rw k (some ⟨0, kc, 0, []⟩) } else .bad
   | some _ => .bad
  | none => .bad
 | .mup kc x kx vx, s => match s.ev x, s.ev kx, b0u kc (s.ev vx) with
  | .one (.mp k), .one (.g kv), some c => match s.rw k with
   | some r => if r.z = 0 ∧ r.E = kc ∧ l8 kc kv = true ∧ c.isD = true then .ok ({ s with rw := upd s.rw k (some { r with es := a4u kv c r.es }) }.put d .any) else .bad
   | none => .bad
  | _, _, _ => .bad
 | .mdl kc x kx, s => match s.ev x, s.ev kx with
  | .one (.mp k), .one (.g kv) => match s.rw k with
   | some r => if r.z = 0 ∧ r.E = kc ∧ l8 kc kv = true then .ok ({ s with rw := upd s.rw k (some { r with es := a9E kv r.es }) }.put d .any) else .bad
   | none => .bad
  | _, _ => .bad
 | .mlk kc zero ok z x kx, s => match s.ev x, s.ev kx with
  | .one (.mp k), .one (.g kv) => match s.rw k with
   | some r => if r.z = 0 ∧ r.E = kc ∧ l8 kc kv = true then .ok (s.put d (if ok then .tu [a2O kc ((Z3 kv r.es).getD (.g zero)), bv (Z3 kv r.es).isSome] else a2O kc ((Z3 kv r.es).getD (.g zero)))) else .bad
   | none => .bad
  | .one (.fm kc' es), .one (.g kv) => if kc' = kc ∧ l8 kc kv = true then .ok (s.put d (if ok then .tu [a2O kc ((O7 kv es).getD (a0d z zero)), bv (O7 kv es).isSome] else a2O kc ((O7 kv es).getD (a0d z zero)))) else .bad
  | _, _ => .bad
 | .aadr n z x i, s => match s.ev x, s.ev i with
  | .one (.bx k o), .one (.g (.int _ m)) => .need (0 <= m ∧ m < n) (s.put d (.one (.bx k (o + m.toNat * z))))
  | .one (.ep cs), .one (.g (.int _ m)) => .need (0 <= m ∧ m < n) (s.put d (.one (.ep (cs.drop (m.toNat * z)))))
  | _, _ => .bad
 | .ssub x lo hi, s => match s.ev x, lo.map s.ev, hi.map s.ev with
  | .one (.g (.string b)), none, none => .ok (s.put d (sv b))
  | .one (.g (.string b)), some (.one (.g (.int _ l))), none => .need (0 <= l ∧ l <= b.size) (s.put d (sv (b.extract l.toNat b.size)))
  | .one (.g (.string b)), none, some (.one (.g (.int _ h))) => .need (0 <= h ∧ h <= b.size) (s.put d (sv (b.extract 0 h.toNat)))
  | .one (.g (.string b)), some (.one (.g (.int _ l))), some (.one (.g (.int _ h))) => .need (0 <= l ∧ l <= h ∧ h <= b.size) (s.put d (sv (b.extract l.toNat h.toNat)))
  | _, _, _ => .bad
 | .chk x none, s => match s.ev x with
  | .one (.mp _) => .bad
  | .one (.os _ _ _) => .bad
  | .one (.ws _ _ _ _) => .bad
  | .one (.bx _ _) => .bad
  | .one (.ow _ _) => .bad
  | .one (.op _ _ _ _) => .bad
  | _ => .ok (s.put d .any)
 | .chk x (some k), s => match s.ev x with
  | .one (.bx j _) => if j = k then .ok (s.put d .any) else .bad
  | .one (.op _ _ _ _) => if k = RWK then .ok (s.put d .any) else .bad
  | _ => .bad
structure GI where
 dst : Option Nat
 gd : Option (Nat × Bool)
 ins : Ins
abbrev gM (d n : Nat) : GI := ⟨some d, none, .mv (.t n)⟩
abbrev gI (d : Nat) (i : Ins) : GI := ⟨some d, none, i⟩
abbrev gN (i : Ins) : GI := ⟨none, none, i⟩
abbrev gG (d g : Nat) (b : Bool) (i : Ins) : GI := ⟨some d, some (g, b), i⟩
abbrev oI (n : Int) : Opd := .v (.int .i64 n)
structure Keep where
 ts : List Nat
 bs : List Nat
 rs : List Nat
abbrev kP (ts bs rs : List Nat) : Option Keep := some ⟨ts, bs, rs⟩
def kv (k v : Nat) : Nat := if k < XK then 0 else min v 1
def kz (_ _ : Nat) : Nat := 0
structure Kp where
 ts : List Nat
 bs : List Nat
 rs : List Nat
 q : Nat -> Nat -> Nat
def Keep.at (K : Keep) (q : Nat -> Nat -> Nat) : Kp := ⟨K.ts, K.bs, K.rs, q⟩
def AS.renC (s : AS) (K : Kp) : Cel -> Cel
 | .bx k off => if k ∈ K.bs then .bx k off else .any
 | .ow k ver => match s.rw k with
  | some r => if ver = r.ver then (if k ∈ K.rs then .ow k (K.q k ver) else if k < XK then .sl (frE r.es) r.z r.es else .any) else .any
  | none => .any
 | .op k ver i off => if k ∈ K.rs then (match s.rw k with | some r => if ver = r.ver then .op k (K.q k ver) i off else .any | none => .any) else .any
 | .fn f caps => if caps.all (fun c => match c with | .bx k _ => k ∈ K.bs | .g _ => true | .ep _ => true | _ => false) then .fn f caps else .any
 | .os k ver lo => if k ∈ K.rs then (match s.rw k with | some r => if ver = r.ver then .os k (K.q k ver) lo else .any | none => .any) else .any
 | .ws _ _ _ _ => .any
 | .mp k => if k ∈ K.rs then .mp k else (match s.rw k with
  | some r => if k < XK then .fm r.E r.es else .any
  | none => .any)
 | c => c
def AS.ren (s : AS) (K : Kp) : Val -> Val
 | .one c => .one (s.renC K c)
 | .ag cs => .ag (cs.map (s.renC K))
 | .tu _ => .any
 | .any => .any
def AS.keepK (s : AS) (K : Kp) : AS :=
 { tm := m7 (K.ts.map fun t => (t, s.ren K (s.tm t))), bx := f7 ((K.bs.filterMap fun k => (s.bx k).map fun cs => (k, cs.map (s.renC K)))), rw := f7 ((K.rs.filterMap fun k => (s.rw k).map fun r => (k, { r with ver := K.q k r.ver }))) }
def AS.keep (s : AS) : Option Keep -> AS
 | none => s
 | some K => s.keepK (K.at kv)
inductive AC where
 |skip
 | reg (dr : Bool) (l : List GI) (kp : Option Keep)
 | seq (a b : AC)
 | cond (c : Opd) (a b : AC)
 | block (id : Nat) (a : AC)
 | loop (a : AC)
 | exit (id : Nat)
 | ret
 | own (slot : Nat) (E : TypeId) (z : Nat)
 | ownb (key off rk : Nat) (E : TypeId) (z : Nat)
 | ty (slot z : Nat)
def tyV (z : Nat) : Val -> Val
 | .one (.g (.slice none 0 _)) => .one (.sl true z [])
 | v => v
inductive RV where
 | t (n : Nat)
 | cell (n : Nat) (agg : Bool) (sz : Nat)
def AS.rv (s : AS) : RV -> Option Val
 | .t n => some (s.fin (s.tm n))
 | .cell n agg sz => match s.tm n with
  | .one (.bx k off) => match s.bx k with
   | some cs => if agg then (if sz <= (cs.drop off).length then some (s.fin (.ag ((cs.drop off).take sz))) else none) else (match cs.drop off with | c :: _ => some (s.fin (.one c)) | [] => none)
   | none => none
  | _ => none
def AS.res (s : AS) (rs : List RV) : Option Val :=
 match rs.mapM s.rv with
 | some [v] => some v
 | some vs => some (.tu vs)
 | none => none
def U5 (P : Program) (f : FuncId) : Prop := ∃ fn, P.funcs[f]? = some fn ∧ fn.body.isNone = false ∧ (fn.name == "runtime.NumGoroutine") = false
def b1B (P : Program) (w : World) : Prop :=
 (∀ g, P.globalNamed "internal/strconv.uint64pow10" = some g -> Lib.TabIs P w "internal/strconv.uint64pow10" .u64 ((List.range 20).map fun i => ((10 ^ i : Nat) : Int))) ∧
 (∀ g n, (n = "strconv.ErrSyntax" ∨ n = "strconv.ErrRange") -> P.globalNamed n = some g -> ∃ t p, w.var? P n = some #[.iface t p])
def c5D (P : Program) (w : World) (ok : Nat -> Prop) : Prop := ∃ W : World, b1B P W ∧ W.heap.size <= w.heap.size ∧ ∀ b, b < W.heap.size -> ok b ∧ w.heap[b]? = W.heap[b]?
def FC (P : Program) (f : FuncId) (ext : Option (List Cel)) (args : List Val) (R : List Cel -> Val -> Prop) : Prop :=
 U5 P f ∧ ∀ (w : World) (okA : Nat -> Prop) (g : Nat) (vs : List Value), c5D P w okA ->
  (∀ cs, ext = some cs -> ¬ okA g ∧ ∃ cur ty, w.heap[g]? = some (.cells cur ty (0, 0)) ∧ CsRel w okA w.heap.size Env.none cs cur.toList) ->
  args.length = vs.length -> (∀ (i : Nat) (x : Val) (u : Value), args[i]? = some x -> vs[i]? = some u -> VRel w okA w.heap.size Env.none x u) ->
  Calls P f ((if ext.isSome then [Value.pointer (some ⟨g, 0, none⟩)] else []) ++ vs).toArray w fun e w' =>
   ∃ v cs' r, e = .returned v ∧ R cs' r ∧ w.grownBy w' (if ext.isSome then some g else none) ∧
    VRel w' (fun b => w.heap.size <= b ∨ okA b) w.heap.size Env.none r v ∧
    (ext.isSome = true -> ∃ cur ty, w'.heap[g]? = some (.cells cur ty (0, 0)) ∧ CsRel w' (fun b => (w.heap.size <= b ∨ okA b) ∧ b ≠ g) w.heap.size Env.none cs' cur.toList)
end Go.Ai
namespace Go.Ai
open Go
def Keeps (ok : Nat -> Prop) (w w' : World) : Prop := w.heap.size <= w'.heap.size ∧ ∀ b, b < w.heap.size -> ok b -> w'.heap[b]? = w.heap[b]?
theorem Keeps.refl (ok : Nat -> Prop) (w : World) : Keeps ok w w := ⟨Nat.le_refl _, fun _ _ _ => rfl⟩
theorem Keeps.cell {ok : Nat -> Prop} {w w' : World} (h : Keeps ok w w') {b i : Nat} (hb : b < w.heap.size) (hok : ok b) : w'.cell? ⟨b, i, none⟩ = w.cell? ⟨b, i, none⟩ :=
 World.cell?_of_block (w := w) (h.2 b hb hok)
theorem Keeps.of_grown {ok : Nat -> Prop} {w w' : World} (h : w.grownBy w' none) : Keeps ok w w' := ⟨h.size, fun b hb _ => h.block b hb (by simp)⟩
theorem DRel.keep {w w' : World} {ok ok' : Nat -> Prop} {c : Cel} {v : Value} (h : DRel w ok c v) (hk : Keeps ok w w') (hok : ∀ b, b < w.heap.size -> ok b -> ok' b) : DRel w' ok' c v := by
 induction h with
 | g hv => exact .g hv
 | any hv => exact .any hv
 | nil => exact .nil
 | sl us hn hc hb hlt hz hcell _ ih =>
  exact .sl us hn hc (hok _ hlt hb) (Nat.lt_of_lt_of_le hlt hk.1) hz (fun i e j x he hx => (hk.cell hlt hb).trans (hcell i e j x he hx)) ih
 | fm cs hb hlt hh hn hks _ ih => exact .fm cs (hok _ hlt hb) (Nat.lt_of_lt_of_le hlt hk.1) ((hk.2 _ hlt hb).trans hh) hn hks ih
theorem DRel.one {w : World} {ok : Nat -> Prop} {c : Cel} {v : Value} (h : DRel w ok c v) : v.oneCell' = true := by
 cases h with
 | g hv => exact hv
 | any hv => exact hv
 | nil => rfl
 | sl => rfl
 | fm => rfl
structure EnvLe (E E' : Env) : Prop where
 gm : ∀ k g, E.gm k = some g -> E'.gm k = some g
 rm : ∀ k ver z u, E.rm k = some (ver, z, u) -> ∃ ver' u', E'.rm k = some (ver', z, u') ∧ ver <= ver' ∧ (ver = ver' ∨ z = 0 -> u = u')
theorem EnvLe.refl (E : Env) : EnvLe E E := ⟨fun _ _ h => h, fun _ ver _ u h => ⟨ver, u, h, Nat.le_refl _, fun _ => rfl⟩⟩
section
variable {w w' : World} {ok ok' : Nat -> Prop} {base base' : Nat} {E E' : Env}
theorem CRel0.move {c : Cel} {v : Value} (h : CRel0 w ok base E c v) (hk : Keeps ok w w') (hok : ∀ b, b < w.heap.size -> ok b -> ok' b) (hb : base' <= base) (hE : EnvLe E E') : CRel0 w' ok' base' E' c v := by
 cases c with
 | g u => exact h
 | sl fr z es =>
  cases fr with
  | false => exact DRel.keep h hk hok
  | true => exact DRel.keep (ok' := fun b => base' <= b ∧ ok' b) h ⟨hk.1, fun b hb ho => hk.2 b hb ho.2⟩ (fun b hlt ho => ⟨Nat.le_trans hb ho.1, hok b hlt ho.2⟩)
 | ep cs =>
  obtain ⟨b, off, us, rfl, ho, hlt, hc⟩ := h
  exact ⟨b, off, us, rfl, hok b hlt ho, Nat.lt_of_lt_of_le hlt hk.1, fun j x hx => ⟨(hk.cell hlt ho).trans (hc j x hx).1, (hc j x hx).2.keep hk hok⟩⟩
 | bx k off =>
  obtain ⟨g, hg, rfl⟩ := h
  exact ⟨g, hE.gm k g hg, rfl⟩
 | ow k ver =>
  obtain ⟨h1, ver', z, u, hr, hle, hv, hz⟩ := h
  obtain ⟨ver'', u', hr', hle', heq⟩ := hE.rm k ver' z u hr
  exact ⟨h1, ver'', z, u', hr', Nat.le_trans hle hle', fun he => by
   have h2 : ver' = ver'' := by omega
   rw [<- heq (.inl h2)]; exact hv (by omega), hz⟩
 | op k ver i off =>
  obtain ⟨h1, ver', z, u, hr, hle, hv, hz⟩ := h
  obtain ⟨ver'', u', hr', hle', heq⟩ := hE.rm k ver' z u hr
  exact ⟨h1, ver'', z, u', hr', Nat.le_trans hle hle', fun he => by
   have h2 : ver' = ver'' := by omega
   rw [<- heq (.inl h2)]; exact hv (by omega), hz⟩
 | os k ver lo =>
  obtain ⟨h1, ver', z, u, hr, hle, hv, hz⟩ := h
  obtain ⟨ver'', u', hr', hle', heq⟩ := hE.rm k ver' z u hr
  exact ⟨h1, ver'', z, u', hr', Nat.le_trans hle hle', fun he => by
   have h2 : ver' = ver'' := by omega
   rw [<- heq (.inl h2)]; exact hv (by omega), hz⟩
 | ws k ver lo hi =>
  obtain ⟨h1, ver', z, u, hr, hle, hv, hz⟩ := h
  obtain ⟨ver'', u', hr', hle', heq⟩ := hE.rm k ver' z u hr
  exact ⟨h1, ver'', z, u', hr', Nat.le_trans hle hle', fun he => by
   have h2 : ver' = ver'' := by omega
   rw [<- heq (.inl h2)]; exact hv (by omega), hz⟩
 | mp k =>
  obtain ⟨h1, ver', u, hr, hv⟩ := h
  obtain ⟨ver'', u', hr', _, heq⟩ := hE.rm k ver' 0 u hr
  exact ⟨h1, ver'', u', hr', by rw [<- heq (.inr rfl)]; exact hv⟩
 | fm kc es => exact DRel.keep h hk hok
 | fn f caps => exact h
 | any => exact h
theorem CRel.move {c : Cel} {v : Value} (h : CRel w ok base E c v) (hk : Keeps ok w w') (hok : ∀ b, b < w.heap.size -> ok b -> ok' b) (hb : base' <= base) (hE : EnvLe E E') : CRel w' ok' base' E' c v := by
 cases c with
 | fn f caps =>
  obtain ⟨us, rfl, hl, hc⟩ := h
  exact ⟨us, rfl, hl, fun i c u h1 h2 => (hc i c u h1 h2).move hk hok hb hE⟩
 | g u => exact CRel0.move (c := .g u) h hk hok hb hE
 | sl fr z es => exact CRel0.move (c := .sl fr z es) h hk hok hb hE
 | ep cs => exact CRel0.move (c := .ep cs) h hk hok hb hE
 | bx k off => exact CRel0.move (c := .bx k off) h hk hok hb hE
 | ow k ver => exact CRel0.move (c := .ow k ver) h hk hok hb hE
 | op k ver i off => exact CRel0.move (c := .op k ver i off) h hk hok hb hE
 | os k ver lo => exact CRel0.move (c := .os k ver lo) h hk hok hb hE
 | ws k ver lo hi => exact CRel0.move (c := .ws k ver lo hi) h hk hok hb hE
 | mp k => exact CRel0.move (c := .mp k) h hk hok hb hE
 | fm kc es => exact CRel0.move (c := .fm kc es) h hk hok hb hE
 | any => exact CRel0.move (c := .any) h hk hok hb hE
theorem CsRel.move {cs : List Cel} {us : List Value} (h : CsRel w ok base E cs us) (hk : Keeps ok w w') (hok : ∀ b, b < w.heap.size -> ok b -> ok' b) (hb : base' <= base) (hE : EnvLe E E') : CsRel w' ok' base' E' cs us :=
 ⟨h.1, fun i c u h1 h2 => (h.2 i c u h1 h2).move hk hok hb hE⟩
theorem VRel.move {x : Val} {v : Value} (h : VRel w ok base E x v) (hk : Keeps ok w w') (hok : ∀ b, b < w.heap.size -> ok b -> ok' b) (hb : base' <= base) (hE : EnvLe E E') : VRel w' ok' base' E' x v := by
 induction h with
 | one hc => exact .one (hc.move hk hok hb hE)
 | ag hc => exact .ag (hc.move hk hok hb hE)
 | tu hl _ ih => exact .tu hl ih
 | any => exact .any
theorem CRel0.oneC {c : Cel} {v : Value} (h : CRel0 w ok base E c v) : v.oneCell' = true := by
 cases c with
 | g u => obtain ⟨rfl, h⟩ := h; exact h
 | sl fr z es => exact DRel.one h
 | ep cs => obtain ⟨b, off, us, rfl, _⟩ := h; rfl
 | bx k off => obtain ⟨g, _, rfl⟩ := h; rfl
 | ow k ver => exact h.1
 | op k ver i off => exact h.1
 | os k ver lo => exact h.1
 | ws k ver lo hi => exact h.1
 | mp k => exact h.1
 | fm kc es => exact DRel.one h
 | fn f caps => exact h.elim
 | any => exact h
theorem CRel.oneC {c : Cel} {v : Value} (h : CRel w ok base E c v) : v.oneCell' = true := by
 cases c with
 | fn f caps => obtain ⟨us, rfl, _⟩ := h; rfl
 | g u => obtain ⟨rfl, h⟩ := h; exact h
 | sl fr z es => exact CRel0.oneC (w := w) (ok := ok) (base := base) (E := E) (c := .sl fr z es) h
 | ep cs => exact CRel0.oneC (w := w) (ok := ok) (base := base) (E := E) (c := .ep cs) h
 | bx k off => exact CRel0.oneC (w := w) (ok := ok) (base := base) (E := E) (c := .bx k off) h
 | ow k ver => exact CRel0.oneC (w := w) (ok := ok) (base := base) (E := E) (c := .ow k ver) h
 | op k ver i off => exact CRel0.oneC (w := w) (ok := ok) (base := base) (E := E) (c := .op k ver i off) h
 | os k ver lo => exact CRel0.oneC (w := w) (ok := ok) (base := base) (E := E) (c := .os k ver lo) h
 | ws k ver lo hi => exact CRel0.oneC (w := w) (ok := ok) (base := base) (E := E) (c := .ws k ver lo hi) h
 | mp k => exact CRel0.oneC (w := w) (ok := ok) (base := base) (E := E) (c := .mp k) h
 | fm kc es => exact CRel0.oneC (w := w) (ok := ok) (base := base) (E := E) (c := .fm kc es) h
 | any => exact CRel0.oneC (w := w) (ok := ok) (base := base) (E := E) (c := .any) h
theorem CsRel.ones {cs : List Cel} {us : List Value} (h : CsRel w ok base E cs us) : ∀ v ∈ us, v.oneCell' = true := by
 intro v hv
 obtain ⟨i, hi⟩ := List.getElem?_of_mem hv
 have hlt : i < us.length := (List.getElem?_eq_some_iff.1 hi).1
 exact (h.2 i (cs[i]'(by have := h.1; omega)) v (List.getElem?_eq_getElem _) hi).oneC
theorem VRel.cells {x : Val} {v : Value} {cs : List Cel} (h : VRel w ok base E x v) (hc : t6 x = some cs) : CsRel w ok base E cs v.cells.toList := by
 cases h with
 | @one c v h1 =>
  simp only [t6, Option.some.injEq] at hc
  subst hc
  have h2 : v.cells = #[v] := by
   have := h1.oneC
   cases v <;> first | rfl | (simp [Value.oneCell'] at this)
  rw [h2]
  refine ⟨rfl, fun i c' u h3 h4 => ?_⟩
  grind
 | ag h1 =>
  simp only [t6, Option.some.injEq] at hc
  subst hc
  exact h1
 | tu => simp [t6] at hc
 | any => simp [t6] at hc
theorem CsRel.take {cs : List Cel} {us : List Value} (h : CsRel w ok base E cs us) (n : Nat) : CsRel w ok base E (cs.take n) (us.take n) := by
 refine ⟨by simp [h.1], fun i c u h1 h2 => ?_⟩
 rw [List.getElem?_take] at h1 h2
 split at h1
 ·rename_i hlt; rw [if_pos hlt] at h2; exact h.2 i c u h1 h2
 ·cases h1
theorem CsRel.drop {cs : List Cel} {us : List Value} (h : CsRel w ok base E cs us) (n : Nat) : CsRel w ok base E (cs.drop n) (us.drop n) := by
 refine ⟨by simp [h.1], fun i c u h1 h2 => ?_⟩
 rw [List.getElem?_drop] at h1 h2
 exact h.2 _ c u h1 h2
theorem CsRel.append {cs ds : List Cel} {us vs : List Value} (h : CsRel w ok base E cs us) (k : CsRel w ok base E ds vs) : CsRel w ok base E (cs ++ ds) (us ++ vs) := by
 refine ⟨by simp [h.1, k.1], fun i c u h1 h2 => ?_⟩
 rw [List.getElem?_append] at h1 h2
 rw [<- h.1] at h2
 split at h1
 ·rename_i hlt; rw [if_pos hlt] at h2; exact h.2 i c u h1 h2
 ·rename_i hlt; rw [if_neg hlt] at h2; exact k.2 _ c u h1 h2
theorem CsRel.nil : CsRel w ok base E [] [] := ⟨rfl, fun i c u h => by simp at h⟩
theorem CsRel.cons {c : Cel} {u : Value} {cs : List Cel} {us : List Value} (h : CRel w ok base E c u) (k : CsRel w ok base E cs us) : CsRel w ok base E (c :: cs) (u :: us) := by
 refine ⟨by simp [k.1], fun i c' u' h1 h2 => ?_⟩
 match i with
 | 0 => simp at h1 h2; subst h1; subst h2; exact h
 | i + 1 => simp at h1 h2; exact k.2 i c' u' h1 h2
theorem CsRel.at_ {cs : List Cel} {us : List Value} (h : CsRel w ok base E cs us) {i : Nat} {c : Cel} (hc : cs[i]? = some c) : ∃ u, us[i]? = some u ∧ CRel w ok base E c u := by
 have hlt : i < cs.length := (List.getElem?_eq_some_iff.1 hc).1
 have hlt' : i < us.length := by have := h.1; omega
 exact ⟨us[i], List.getElem?_eq_getElem _, h.2 i c _ hc (List.getElem?_eq_getElem _)⟩
theorem CsRel.gs (zs : List Value) (h : ∀ v ∈ zs, v.oneCell' = true) : CsRel w ok base E (zs.map .g) zs := by
 induction zs with
 | nil => exact .nil
 | cons v zs ih => exact .cons (c := .g v) ⟨rfl, h v (by simp)⟩ (ih fun u hu => h u (by simp [hu]))
end
def u6 : Value -> Option Nat
 | .map r => r
 | v => v.ownBlock
theorem W4 {w : World} {base z n : Nat} {e : TypeId} {v : Value} {xs : List Value} (h : w.ownsRow base e z v n xs) : u6 v = v.ownBlock := by
 rcases h.2 with ⟨rfl, _⟩ | ⟨_, _, _, rfl, _⟩ <;> rfl
def d4I (w : World) (base c : Nat) (v : Value) (n : Nat) (xs : List Value) : Prop :=
 ∃ b es clock, v = .map (some b) ∧ base <= b ∧ w.heap[b]? = some (.map es clock) ∧ es.size = n ∧ xs = (es.toList.map fun e => [e.key, a0z e.val]).flatten ∧ ∀ e ∈ es.toList, l8 c e.key = true ∧ vOk c e.val
def owns (w : World) (base : Nat) (e : TypeId) (z : Nat) (v : Value) (n : Nat) (xs : List Value) : Prop :=
 (0 < z ∧ w.ownsRow base e z v n xs) ∨ (z = 0 ∧ d4I w base e v n xs)
theorem owns.lt {w : World} {base z n : Nat} {e : TypeId} {v : Value} {xs : List Value} (h : owns w base e z v n xs) : ∀ k, u6 v = some k -> base <= k ∧ k < w.heap.size := by
 intro k hk
 rcases h with ⟨_, h⟩ | ⟨_, b, es, clock, rfl, hb, hg, _⟩
 ·rw [W4 h] at hk; exact h.lt k hk
 ·simp only [u6, Option.some.injEq] at hk; subst hk
  grind
theorem owns.kept {w w' : World} {row : Option Nat} {base z n : Nat} {e : TypeId} {v : Value} {xs : List Value} (h : owns w base e z v n xs) (hg : w.grownBy w' row) (hne : u6 v = none ∨ u6 v ≠ row) : owns w' base e z v n xs := by
 rcases h with ⟨hz, h⟩ | ⟨hz, b, es, clock, rfl, hb, hgg, rest⟩
 ·rw [W4 h] at hne; exact .inl ⟨hz, h.kept hg hne⟩
 ·refine .inr ⟨hz, b, es, clock, rfl, hb, ?_, rest⟩
  rw [hg.block b (Array.getElem?_eq_some_iff.1 hgg).1 (by simpa [u6] using hne)]
  exact hgg
theorem owns.alloc {w : World} {base z n : Nat} {e : TypeId} {v : Value} {xs : List Value} (h : owns w base e z v n xs) (o : Obj) : owns (w.alloc o) base e z v n xs :=
 h.kept (World.grownBy_alloc w o none) (by cases hv : u6 v <;> simp)
theorem owns.of_block {w w' : World} {base z n : Nat} {e : TypeId} {v : Value} {xs : List Value} (h : owns w base e z v n xs) (hb : ∀ b, u6 v = some b -> w'.heap[b]? = w.heap[b]?) : owns w' base e z v n xs := by
 rcases h with ⟨hz, h⟩ | ⟨hz, b, es, clock, rfl, hb0, hgg, rest⟩
 ·refine .inl ⟨hz, h.1, h.2.imp id ?_⟩
  rintro ⟨g, cap, cur, rfl, hb0, hcell, hrest⟩
  exact ⟨g, cap, cur, rfl, hb0, (hb g rfl).trans hcell, hrest⟩
 ·exact .inr ⟨hz, b, es, clock, rfl, hb0, (hb b rfl).trans hgg, rest⟩
theorem owns.row {w : World} {base z n : Nat} {e : TypeId} {v : Value} {xs : List Value} (h : owns w base e z v n xs) (hz : 0 < z) : w.ownsRow base e z v n xs := by
 rcases h with ⟨_, h⟩ | ⟨h0, _⟩
 ·exact h
 ·omega
def okE (w0 : World) (okA : Nat -> Prop) (E : Env) (b : Nat) : Prop :=
 (∀ k, E.gm k ≠ some b) ∧ (∀ k ver z u, E.rm k = some (ver, z, u) -> (u6 u) ≠ some b) ∧ (w0.heap.size <= b ∨ okA b)
def Y5 (z : Nat) (es : List (List Cel)) : Prop := ∀ e ∈ es, e.length = z
def a9H (es : List (List Cel)) : Prop := ∀ e ∈ es, ∃ k c, e = [.g k, c]
def rowOkZ (z : Nat) (es : List (List Cel)) : Prop := (0 < z -> Y5 z es) ∧ (z = 0 -> a9H es)
theorem rowOkZ.of {z : Nat} {es : List (List Cel)} (hz : 0 < z) (h : Y5 z es) : rowOkZ z es := ⟨fun _ => h, fun h0 => by omega⟩
def RRel (w : World) (ok : Nat -> Prop) (base : Nat) (cs : List Cel) (us : List Value) : Prop :=
 cs.length = us.length ∧ ∀ (i : Nat) (c : Cel) (u : Value), cs[i]? = some c -> us[i]? = some u -> c.isD = true ∧ CRel0 w ok base Env.none c u
section
variable {w w' : World} {ok ok' : Nat -> Prop} {base base' : Nat} {E : Env}
theorem CRel0.ofD {c : Cel} {v : Value} {E' : Env} (hd : c.isD = true) (h : CRel0 w ok base E c v) : CRel0 w ok base E' c v := by
 cases c <;> first | exact h | (simp [Cel.isD] at hd)
theorem CRel.ofD {c : Cel} {v : Value} {E' : Env} (hd : c.isD = true) (h : CRel w ok base E c v) : CRel0 w ok base E' c v := by
 cases c <;> first | exact h | (simp [Cel.isD] at hd)
theorem CRel0.toC {c : Cel} {v : Value} (h : CRel0 w ok base E c v) : CRel w ok base E c v := by
 cases c <;> first | exact h | exact h.elim
theorem RRel.move {cs : List Cel} {us : List Value} (h : RRel w ok base cs us) (hk : Keeps ok w w') (hok : ∀ b, b < w.heap.size -> ok b -> ok' b) (hb : base' <= base) : RRel w' ok' base' cs us :=
 ⟨h.1, fun i c u h1 h2 => ⟨(h.2 i c u h1 h2).1, (h.2 i c u h1 h2).2.move hk hok hb (.refl _)⟩⟩
theorem RRel.nil : RRel w ok base [] [] := ⟨rfl, fun i c u h => by simp at h⟩
theorem RRel.append {cs ds : List Cel} {us vs : List Value} (h : RRel w ok base cs us) (k : RRel w ok base ds vs) : RRel w ok base (cs ++ ds) (us ++ vs) := by
 refine ⟨by simp [h.1, k.1], fun i c u h1 h2 => ?_⟩
 rw [List.getElem?_append] at h1 h2
 rw [<- h.1] at h2
 split at h1
 ·rename_i hlt; rw [if_pos hlt] at h2; exact h.2 i c u h1 h2
 ·rename_i hlt; rw [if_neg hlt] at h2; exact k.2 _ c u h1 h2
theorem RRel.take {cs : List Cel} {us : List Value} (h : RRel w ok base cs us) (n : Nat) : RRel w ok base (cs.take n) (us.take n) := by
 refine ⟨by simp [h.1], fun i c u h1 h2 => ?_⟩
 rw [List.getElem?_take] at h1 h2
 split at h1
 ·rename_i hlt; rw [if_pos hlt] at h2; exact h.2 i c u h1 h2
 ·cases h1
theorem RRel.drop {cs : List Cel} {us : List Value} (h : RRel w ok base cs us) (n : Nat) : RRel w ok base (cs.drop n) (us.drop n) := by
 refine ⟨by simp [h.1], fun i c u h1 h2 => ?_⟩
 rw [List.getElem?_drop] at h1 h2
 exact h.2 _ c u h1 h2
theorem RRel.of {cs : List Cel} {us : List Value} (h : CsRel w ok base E cs us) (hd : ∀ c ∈ cs, c.isD = true) : RRel w ok base cs us :=
 ⟨h.1, fun i c u h1 h2 => ⟨hd c (List.mem_of_getElem? h1), (h.2 i c u h1 h2).ofD (hd c (List.mem_of_getElem? h1))⟩⟩
theorem RRel.toCs {cs : List Cel} {us : List Value} (h : RRel w ok base cs us) : CsRel w ok base E cs us :=
 ⟨h.1, fun i c u h1 h2 => ((h.2 i c u h1 h2).2.ofD (h.2 i c u h1 h2).1).toC⟩
theorem RRel.at_ {cs : List Cel} {us : List Value} (h : RRel w ok base cs us) {i : Nat} {c : Cel} (hc : cs[i]? = some c) : ∃ u, us[i]? = some u ∧ c.isD = true ∧ CRel0 w ok base Env.none c u := by
 have hlt : i < cs.length := (List.getElem?_eq_some_iff.1 hc).1
 have hlt' : i < us.length := by have := h.1; omega
 exact ⟨us[i], List.getElem?_eq_getElem _, h.2 i c _ hc (List.getElem?_eq_getElem _)⟩
theorem RRel.ones {cs : List Cel} {us : List Value} (h : RRel w ok base cs us) : ∀ v ∈ us, v.oneCell' = true := (h.toCs (E := Env.none)).ones
end
structure Grew (X : Nat -> Prop) (w w' : World) : Prop where
 os : w'.os = w.os
 tape : w'.tape = w.tape
 output : w'.output = w.output
 size : w.heap.size <= w'.heap.size
 block : ∀ k, k < w.heap.size -> ¬ X k -> w'.heap[k]? = w.heap[k]?
theorem Grew.refl (X : Nat -> Prop) (w : World) : Grew X w w := ⟨rfl, rfl, rfl, Nat.le_refl _, fun _ _ _ => rfl⟩
structure Ext where
 blk : Nat -> Prop
 gk : Nat -> Option Nat
 rk : Nat -> Nat -> Prop
 r0 : Nat -> Value -> Prop
 bT : TypeId -> Prop
def W1 (k : Nat) : Bool := decide (900000 <= k ∧ k < 1000000) || decide (1900000 <= k ∧ k < 2000000)
theorem a6w {k : Nat} (h : k < 900000) : W1 k = false := by unfold W1; rw [decide_eq_false (by omega), decide_eq_false (by omega)]; rfl
def TyB (bT : TypeId -> Prop) (w : World) (E : Env) : Prop := ∀ k g, W1 k = true -> E.gm k = some g -> ∃ cur T, w.heap[g]? = some (.cells cur T (0, 0)) ∧ bT T
def S9 (P : Program) (t : TypeId) : Bool := match P.types[t]? with | some i => i.str == "strings.Builder" | none => false
class b1K (P : Program) (w0 : World) (okA : Nat -> Prop) (ext : Ext) : Prop where
 tab : c5D P w0 okA
 xo : ∀ b, ext.blk b -> ¬ okA b
 bt : ext.bT = fun t => S9 P t = true
structure St (w0 : World) (okA : Nat -> Prop) (ext : Ext) (N : Nat) (s : AS) (a : Act) (w : World) (E : Env) : Prop where
 size : a.tmps.size = N
 defers : a.defers = []
 tm : ∀ t, VRel w (okE w0 okA E) w0.heap.size E (s.tm t) (a.tmps.getD t undef)
 bx : ∀ k cs, s.bx k = some cs -> ∃ g cur ty, E.gm k = some g ∧ w.heap[g]? = some (.cells cur ty (0, 0)) ∧ CsRel w (okE w0 okA E) w0.heap.size E cs cur.toList
 bxn : ∀ k, s.bx k = none -> E.gm k = none
 rw : ∀ k r, s.rw k = some r -> (r.z = 0 -> r.ver = 0) ∧ rowOkZ r.z r.es ∧ ∃ u vs, E.rm k = some (r.ver, r.z, u) ∧ owns w 0 r.E r.z u r.es.length vs ∧ RRel w (okE w0 okA E) w0.heap.size r.es.flatten vs
 rwn : ∀ k, s.rw k = none -> E.rm k = none
 ginj : ∀ k k' g, E.gm k = some g -> E.gm k' = some g -> k = k'
 gr : ∀ k g k' ver z u, E.gm k = some g -> E.rm k' = some (ver, z, u) -> (u6 u) ≠ some g
 rr : ∀ k ver z u k' ver' z' u' b, E.rm k = some (ver, z, u) -> E.rm k' = some (ver', z', u') -> (u6 u) = some b -> (u6 u') = some b -> k = k'
 gfr : ∀ k g, E.gm k = some g -> w0.heap.size <= g ∨ ext.blk g
 gx : ∀ k g, (k = 0 ∨ XK <= k) -> E.gm k = some g -> ext.gk k = some g
 nx : N <= 900000
 rfr : ∀ k ver z u b, E.rm k = some (ver, z, u) -> (u6 u) = some b -> w0.heap.size <= b ∨ (XK <= k ∧ ext.rk k b ∧ ext.blk b)
 rst : ∀ k z u, XK <= k -> E.rm k = some (0, z, u) -> ext.r0 k u
 frame : Grew ext.blk w0 w
 bt : TyB ext.bT w E
section
variable {w0 w w' : World} {okA : Nat -> Prop} {ext : Ext} {N : Nat} {s : AS} {a : Act} {E : Env}
theorem St.rwS (h : St w0 okA ext N s a w E) {k : Nat} {r : Row} (hs : s.rw k = some r) (hz : 0 < r.z) : 0 < r.z ∧ Y5 r.z r.es ∧ ∃ u vs, E.rm k = some (r.ver, r.z, u) ∧ w.ownsRow 0 r.E r.z u r.es.length vs ∧ RRel w (okE w0 okA E) w0.heap.size r.es.flatten vs := by
 obtain ⟨_, h2, u, vs, h3, h4, h5⟩ := h.rw k r hs
 exact ⟨hz, h2.1 hz, u, vs, h3, h4.row hz, h5⟩
theorem St.zpos (h : St w0 okA ext N s a w E) {k ver z : Nat} {r : Row} {u : Value} (hs : s.rw k = some r) (hr : E.rm k = some (ver, z, u)) (hz : 0 < z) : 0 < r.z := by
 obtain ⟨_, _, u', _, h3, _⟩ := h.rw k r hs
 grind
theorem St.glt (h : St w0 okA ext N s a w E) {k g : Nat} (hg : E.gm k = some g) : g < w.heap.size := by
 cases hb : s.bx k with
 | none => rw [h.bxn k hb] at hg; cases hg
 | some cs =>
  obtain ⟨g', cur, ty, h1, h2, _⟩ := h.bx k cs hb
  all_goals grind
theorem St.rlt (h : St w0 okA ext N s a w E) {k ver z b : Nat} {u : Value} (hr : E.rm k = some (ver, z, u)) (hu : (u6 u) = some b) : b < w.heap.size := by
 cases hb : s.rw k with
 | none => rw [h.rwn k hb] at hr; cases hr
 | some r =>
  obtain ⟨_, _, u', vs, h1, h2, _⟩ := h.rw k r hb
  rw [h1] at hr; injection hr with hr
  simp only [Prod.mk.injEq] at hr
  obtain ⟨_, _, rfl⟩ := hr
  exact (h2.lt b hu).2
theorem St.tab {P : Program} [hT : b1K P w0 okA ext] (h : St w0 okA ext N s a w E) : c5D P w (okE w0 okA E) ∧ c5D P w fun _ => True := by
 obtain ⟨W, h1, h2, h3⟩ := hT.tab
 have hb : ∀ b, b < W.heap.size -> w.heap[b]? = W.heap[b]? := fun b hb => (h.frame.block b (by omega) fun hx => hT.xo b hx (h3 b hb).1).trans (h3 b hb).2
 have hs := h.frame.size
 refine ⟨⟨W, h1, by omega, fun b hlt => ⟨⟨fun k hg => ?_, fun k ver z u hr hu => ?_, .inr (h3 b hlt).1⟩, hb b hlt⟩⟩, ⟨W, h1, by omega, fun b hlt => ⟨trivial, hb b hlt⟩⟩⟩
 ·rcases h.gfr k b hg with h4 | h4
  ·omega
  ·exact hT.xo b h4 (h3 b hlt).1
 ·rcases h.rfr k ver z u b hr hu with h4 | h4
  ·omega
  ·exact hT.xo b h4.2.2 (h3 b hlt).1
theorem St.put (h : St w0 okA ext N s a w E) {d : Option Nat} {x : Val} {v : Value} (hx : VRel w (okE w0 okA E) w0.heap.size E x v) (hd : ∀ k, d = some k -> k < N) : St w0 okA ext N (s.put d x) (a.put d v) w E := by
 cases d with
 | none => exact h
 | some k =>
  have hk := hd k rfl
  refine { h with size := ?_, defers := h.defers, tm := fun t => ?_ }
  ·simp [Act.put, h.size]
  ·simp only [AS.put, upd, Act.put]
   by_cases ht : t = k
   ·subst ht
    have : (a.tmps.setIfInBounds t v).getD t undef = v := by simp [Array.getD, h.size, hk]
    grind
   ·have : (a.tmps.setIfInBounds k v).getD t undef = a.tmps.getD t undef := by
     simp [Array.getD_eq_getD_getElem?, Ne.symm ht]
    rw [if_neg ht, this]; exact h.tm t
theorem St.grown (h : St w0 okA ext N s a w E) (hg : w.grownBy w' none) : St w0 okA ext N s a w' E where
 size := h.size
 defers := h.defers
 tm t := (h.tm t).move (.of_grown hg) (fun _ _ h => h) (Nat.le_refl _) (.refl E)
 bx k cs hc := by
  obtain ⟨g, cur, ty, h1, h2, h3⟩ := h.bx k cs hc
  exact ⟨g, cur, ty, h1, (hg.block g (h.glt h1) (by simp)).trans h2, h3.move (.of_grown hg) (fun _ _ h => h) (Nat.le_refl _) (.refl E)⟩
 bxn := h.bxn
 rw k r hr := by
  obtain ⟨h1, h2, u, vs, h3, h4, h5⟩ := h.rw k r hr
  refine ⟨h1, h2, u, vs, h3, ?_, h5.move (.of_grown hg) (fun _ _ h => h) (Nat.le_refl _)⟩
  rcases hu : (u6 u) with _ | b
  ·exact h4.kept hg (.inl hu)
  ·exact h4.kept hg (.inr (by rw [hu]; simp))
 rwn := h.rwn
 ginj := h.ginj
 gr := h.gr
 rr := h.rr
 gfr := h.gfr
 gx := h.gx
 nx := h.nx
 rfr := h.rfr
 rst := h.rst
 frame := by
  refine ⟨hg.os.trans h.frame.os, hg.tape.trans h.frame.tape, hg.output.trans h.frame.output, Nat.le_trans h.frame.size hg.size, fun k hk hne => ?_⟩
  exact (hg.block k (Nat.lt_of_lt_of_le hk h.frame.size) (by simp)).trans (h.frame.block k hk hne)
 bt := fun k g hk hg' => (h.bt k g hk hg').imp fun cur h => h.imp fun T h => ⟨(hg.block g (by have := (Array.getElem?_eq_some_iff.1 h.1).1; exact this) (by simp)).trans h.1, h.2⟩
end
end Go.Ai
namespace Go.Ai
open Go
theorem j6 {α : Type} (f : Nat -> α) (k : Nat) (v : α) : upd f k v k = v := by simp [upd]
theorem l6 {α : Type} (f : Nat -> α) {k j : Nat} (v : α) (h : j ≠ k) : upd f k v j = f j := by simp [upd, h]
section
variable {w0 w w' : World} {okA : Nat -> Prop} {ext : Ext} {N : Nat} {s : AS} {a : Act} {E : Env}
theorem St.box (h : St w0 okA ext N s a w E) {k : Nat} {cs : List Cel} {cur : List Value} {ty : TypeId} (hk : s.bx k = none) (hk0 : k ≠ 0) (hkN : k < N)
  (hcs : CsRel w (okE w0 okA E) w0.heap.size E cs cur) :
  St w0 okA ext N { s with tm := upd s.tm k (.one (.bx k 0)), bx := upd s.bx k (some cs) } (a.put (some k) (.pointer (some ⟨w.heap.size, 0, none⟩))) (w.alloc (.cells cur.toArray ty))
   ⟨upd E.gm k (some w.heap.size), E.rm⟩ := by
 have hEk : E.gm k = none := h.bxn k hk
 have hkeep : Keeps (okE w0 okA E) w (w.alloc (.cells cur.toArray ty)) := ⟨by simp, fun b hb _ => RowKit.Below.heap_alloc w _ b hb⟩
 have hle : EnvLe E ⟨upd E.gm k (some w.heap.size), E.rm⟩ := ⟨fun j g hj => by
  have : j ≠ k := by rintro rfl; rw [hEk] at hj; cases hj
  simp only [l6 _ _ this]; exact hj, (EnvLe.refl E).rm⟩
 have hok : ∀ b, b < w.heap.size -> okE w0 okA E b -> okE w0 okA ⟨upd E.gm k (some w.heap.size), E.rm⟩ b := fun b hb ho => by
  refine ⟨fun j => ?_, ho.2.1, ho.2.2⟩
  by_cases hj : j = k
  ·subst hj; simp only [j6]; intro he; injection he with he; omega
  ·simp only [l6 _ _ hj]; exact ho.1 j
 refine ⟨?_, h.defers, fun t => ?_, fun j cs' hj => ?_, fun j hj => ?_, fun j r hr => ?_, h.rwn, fun j j' g hj hj' => ?_, fun j g j' ver z u hj hr => ?_, h.rr, fun j g hj => ?_, fun j g hjk hj => ?_, h.nx, h.rfr, h.rst, ?_, fun j g hj hg => ?_⟩
 ·simp [Act.put, h.size]
 ·by_cases ht : t = k
  ·subst ht
   have : (a.put (some t) (.pointer (some ⟨w.heap.size, 0, none⟩))).tmps.getD t undef = .pointer (some ⟨w.heap.size, 0, none⟩) := by simp [Act.put, Array.getD, h.size, hkN]
   rw [this]; simp only [j6]
   exact .one ⟨w.heap.size, by simp [j6], rfl⟩
  ·have : (a.put (some k) (.pointer (some ⟨w.heap.size, 0, none⟩))).tmps.getD t undef = a.tmps.getD t undef := by simp [Act.put, Array.getD_eq_getD_getElem?, Ne.symm ht]
   rw [this]; simp only [l6 _ _ ht]
   exact (h.tm t).move hkeep hok (Nat.le_refl _) hle
 ·by_cases hj' : j = k
  ·subst hj'
   simp only [j6, Option.some.injEq] at hj; subst hj
   exact ⟨w.heap.size, cur.toArray, ty, by simp [j6], heap_alloc_new w _, hcs.move hkeep hok (Nat.le_refl _) hle⟩
  ·simp only [l6 _ _ hj'] at hj
   obtain ⟨g, c0, ty', h1, h2, h3⟩ := h.bx j cs' hj
   exact ⟨g, c0, ty', by simp only [l6 _ _ hj']; exact h1, (RowKit.Below.heap_alloc w _ g (h.glt h1)).trans h2, h3.move hkeep hok (Nat.le_refl _) hle⟩
 ·by_cases hj' : j = k
  ·subst hj'; simp [j6] at hj
  ·simp only [l6 _ _ hj'] at hj ⊢; exact h.bxn j hj
 ·obtain ⟨h1, h2, u, vs, h3, h4, h5⟩ := h.rw j r hr
  exact ⟨h1, h2, u, vs, h3, h4.alloc _, h5.move hkeep hok (Nat.le_refl _)⟩
 ·by_cases e : j = k <;> by_cases e' : j' = k
  ·rw [e, e']
  ·subst e; simp only [j6, l6 _ _ e', Option.some.injEq] at hj hj'
   have := h.glt hj'; omega
  ·subst e'; simp only [j6, l6 _ _ e, Option.some.injEq] at hj hj'
   have := h.glt hj; omega
  ·simp only [l6 _ _ e, l6 _ _ e'] at hj hj'; exact h.ginj j j' g hj hj'
 ·by_cases e : j = k
  ·subst e; simp only [j6, Option.some.injEq] at hj
   intro hu; have := h.rlt hr hu; omega
  ·simp only [l6 _ _ e] at hj; exact h.gr j g j' ver z u hj hr
 ·by_cases e : j = k
  ·subst e; simp only [j6, Option.some.injEq] at hj; subst hj; exact .inl h.frame.size
  ·simp only [l6 _ _ e] at hj; exact h.gfr j g hj
 ·by_cases e : j = k
  ·subst e; have := h.nx; exfalso; rcases hjk with h1 | h1 <;> (try simp only [XK] at h1) <;> omega
  ·simp only [l6 _ _ e] at hj; exact h.gx j g hjk hj
 ·exact ⟨h.frame.os, h.frame.tape, h.frame.output, Nat.le_trans h.frame.size (by simp), fun b hb hne => (RowKit.Below.heap_alloc w _ b (Nat.lt_of_lt_of_le hb h.frame.size)).trans (h.frame.block b hb hne)⟩
 ·by_cases e : j = k
  ·subst e; have := h.nx; rw [a6w (by omega)] at hj; cases hj
  ·simp only [l6 _ _ e] at hg
   obtain ⟨c0, T, h1, h2⟩ := h.bt j g hj hg
   exact ⟨c0, T, (RowKit.Below.heap_alloc w _ g (Array.getElem?_eq_some_iff.1 h1).1).trans h1, h2⟩
theorem St.boxTurn (h : St w0 okA ext N s a w E) {k g : Nat} {cs' : List Cel} {cur' : Array Value} {ty : TypeId} (hg : E.gm k = some g)
  (hgr : w.grownBy w' (some g)) (hw : w'.heap[g]? = some (.cells cur' ty (0, 0))) (hcs : CsRel w' (okE w0 okA E) w0.heap.size E cs' cur'.toList) (hbt : W1 k = true -> ext.bT ty) :
  St w0 okA ext N { s with bx := upd s.bx k (some cs') } a w' E := by
 have hkeep : Keeps (okE w0 okA E) w w' := ⟨hgr.size, fun b hb ho => hgr.block b hb (fun e => ho.1 k (by rw [hg]; exact e.symm))⟩
 refine ⟨h.size, h.defers, fun t => (h.tm t).move hkeep (fun _ _ h => h) (Nat.le_refl _) (.refl E), fun j cs hj => ?_, fun j hj => ?_, fun j r hr => ?_, h.rwn, h.ginj, h.gr, h.rr, h.gfr, h.gx, h.nx, h.rfr, h.rst, ?_, fun j g' hj hg' => ?_⟩
 ·by_cases e : j = k
  ·subst e; simp only [j6, Option.some.injEq] at hj; subst hj
   grind
  ·simp only [l6 _ _ e] at hj
   obtain ⟨g', c0, ty', h1, h2, h3⟩ := h.bx j cs hj
   have hne : g' ≠ g := by rintro rfl; exact e (h.ginj _ _ _ h1 hg)
   exact ⟨g', c0, ty', h1, (hgr.block g' (h.glt h1) (by simpa using hne)).trans h2, h3.move hkeep (fun _ _ h => h) (Nat.le_refl _) (.refl E)⟩
 ·by_cases e : j = k
  ·subst e; simp [j6] at hj
  ·simp only [l6 _ _ e] at hj; exact h.bxn j hj
 ·obtain ⟨h1, h2, u, vs, h3, h4, h5⟩ := h.rw j r hr
  exact ⟨h1, h2, u, vs, h3, h4.kept hgr (.inr (h.gr k g j _ _ u hg h3)), h5.move hkeep (fun _ _ h => h) (Nat.le_refl _)⟩
 ·refine ⟨hgr.os.trans h.frame.os, hgr.tape.trans h.frame.tape, hgr.output.trans h.frame.output, Nat.le_trans h.frame.size hgr.size, fun b hb hne => ?_⟩
  refine (hgr.block b (Nat.lt_of_lt_of_le hb h.frame.size) (fun e => ?_)).trans (h.frame.block b hb hne)
  injection e with e; subst e
  rcases h.gfr k b hg with h1 | h1
  ·omega
  ·exact hne h1
 ·obtain ⟨c0, T, h1, h2⟩ := h.bt j g' hj hg'
  by_cases e : g' = g
  ·subst e; obtain rfl := h.ginj _ _ _ hg' hg
   grind
  ·exact ⟨c0, T, (hgr.block g' (Array.getElem?_eq_some_iff.1 h1).1 (by simpa using e)).trans h1, h2⟩
theorem St.rowTurnG (h : St w0 okA ext N s a w E) {k : Nat} {r r' : Row} {u u' : Value} {vs' : List Value} (hr : s.rw k = some r) (hu : E.rm k = some (r.ver, r.z, u))
  (hz : r'.z = r.z) (hv : r.ver <= r'.ver) (hv0 : r.z = 0 -> r'.ver = 0) (hvu : r.ver = r'.ver ∨ r.z = 0 -> u = u') (hok : rowOkZ r'.z r'.es)
  (hgr : w.grownBy w' (u6 u)) (hown : owns w' 0 r'.E r'.z u' r'.es.length vs') (hrel : RRel w (okE w0 okA E) w0.heap.size r'.es.flatten vs') (hat : (u6 u') = (u6 u) ∨ (u6 u') = some w.heap.size) :
  St w0 okA ext N { s with rw := upd s.rw k (some r') } a w' ⟨E.gm, upd E.rm k (some (r'.ver, r'.z, u'))⟩ := by
 obtain ⟨hz0, _, u0, vs0, hu0, hown0, _⟩ := h.rw k r hr
 rw [hu] at hu0
 simp only [Option.some.injEq, Prod.mk.injEq, true_and] at hu0
 subst hu0
 have hkeep : Keeps (okE w0 okA E) w w' := ⟨hgr.size, fun b hb ho => hgr.block b hb (fun e => ho.2.1 k _ _ u hu e.symm)⟩
 have hle : EnvLe E ⟨E.gm, upd E.rm k (some (r'.ver, r'.z, u'))⟩ := ⟨fun _ _ h => h, fun j ver z v hj => by
  by_cases e : j = k
  ·subst e
   rw [hu] at hj; simp only [Option.some.injEq, Prod.mk.injEq] at hj
   obtain ⟨rfl, rfl, rfl⟩ := hj
   exact ⟨r'.ver, u', by simp [j6, hz], hv, hvu⟩
  ·exact ⟨ver, v, by simp only [l6 _ _ e]; exact hj, Nat.le_refl _, fun _ => rfl⟩⟩
 have hokb : ∀ b, b < w.heap.size -> okE w0 okA E b -> okE w0 okA ⟨E.gm, upd E.rm k (some (r'.ver, r'.z, u'))⟩ b := fun b hb ho => by
  refine ⟨ho.1, fun j ver z v hj => ?_, ho.2.2⟩
  by_cases e : j = k
  ·subst e
   simp only [j6, Option.some.injEq, Prod.mk.injEq] at hj
   obtain ⟨_, _, rfl⟩ := hj
   rcases hat with h1 | h1 <;> rw [h1]
   ·exact ho.2.1 j _ _ u hu
   ·grind
  ·simp only [l6 _ _ e] at hj; exact ho.2.1 j ver z v hj
 have hrow : ∀ {j ver z v}, (upd E.rm k (some (r'.ver, r'.z, u'))) j = some (ver, z, v) -> (j = k ∧ v = u') ∨ (j ≠ k ∧ E.rm j = some (ver, z, v)) := fun {j ver z v} hj => by
  by_cases e : j = k
  ·subst e; simp only [j6, Option.some.injEq, Prod.mk.injEq] at hj; exact .inl ⟨rfl, hj.2.2.symm⟩
  ·simp only [l6 _ _ e] at hj; exact .inr ⟨e, hj⟩
 refine ⟨h.size, h.defers, fun t => (h.tm t).move hkeep hokb (Nat.le_refl _) hle, fun j cs hj => ?_, h.bxn, fun j q hq => ?_, fun j hj => ?_, h.ginj, fun j g j' ver z v hj hv' => ?_, fun j ver z v j' ver' z' v' b hj hj' hb hb' => ?_, h.gfr, h.gx, h.nx, fun j ver z v b hj hb => ?_, fun j z v hjk hj => ?_, ?_, fun j g hj hg => ?_⟩
 ·obtain ⟨g, c0, ty', h1, h2, h3⟩ := h.bx j cs hj
  exact ⟨g, c0, ty', h1, (hgr.block g (h.glt h1) (fun e => h.gr j g k _ _ u h1 hu e.symm)).trans h2, h3.move hkeep hokb (Nat.le_refl _) hle⟩
 ·by_cases e : j = k
  ·subst e; simp only [j6, Option.some.injEq] at hq; subst hq
   exact ⟨fun h0 => hv0 (by omega), hok, u', vs', by simp [j6], hown, hrel.move hkeep hokb (Nat.le_refl _)⟩
  ·simp only [l6 _ _ e] at hq
   obtain ⟨h1, h2, v, vs, h3, h4, h5⟩ := h.rw j q hq
   refine ⟨h1, h2, v, vs, by simp only [l6 _ _ e]; exact h3, ?_, h5.move hkeep hokb (Nat.le_refl _)⟩
   rcases hb : (u6 v) with _ | b
   ·exact h4.kept hgr (.inl hb)
   ·refine h4.kept hgr (.inr (fun he => ?_))
    exact e (h.rr j _ _ v k _ _ u b h3 hu hb (he ▸ hb))
 ·by_cases e : j = k
  ·subst e; simp [j6] at hj
  ·simp only [l6 _ _ e] at hj ⊢; exact h.rwn j hj
 ·rcases hrow hv' with ⟨rfl, rfl⟩ | ⟨_, h1⟩
  ·rcases hat with h1 | h1 <;> rw [h1]
   ·exact h.gr j g _ _ _ u hj hu
   ·intro h2; injection h2 with h2; have := h.glt hj; omega
  ·exact h.gr j g j' ver z v hj h1
 ·rcases hrow hj with ⟨rfl, rfl⟩ | ⟨e1, h1⟩ <;> rcases hrow hj' with ⟨rfl, rfl⟩ | ⟨e2, h2⟩
  ·rfl
  ·rcases hat with h3 | h3 <;> rw [h3] at hb
   ·exact absurd (h.rr _ _ _ u j' _ _ v' b hu h2 hb hb').symm e2
   ·injection hb with hb; have := h.rlt h2 hb'; omega
  ·rcases hat with h3 | h3 <;> rw [h3] at hb'
   ·exact absurd (h.rr j _ _ v _ _ _ u b h1 hu hb hb') e1
   ·injection hb' with hb'; have := h.rlt h1 hb; omega
  ·exact h.rr j _ _ v j' _ _ v' b h1 h2 hb hb'
 ·rcases hrow hj with ⟨rfl, rfl⟩ | ⟨_, h1⟩
  ·rcases hat with h2 | h2 <;> rw [h2] at hb
   ·exact h.rfr j _ _ u b hu hb
   ·injection hb with hb; subst hb; exact .inl h.frame.size
  ·exact h.rfr j ver z v b h1 hb
 ·by_cases e : j = k
  ·subst e; simp only [j6, Option.some.injEq, Prod.mk.injEq] at hj
   obtain ⟨h1, _, rfl⟩ := hj
   have h2 : r.ver = 0 := by omega
   rw [<- hvu (.inl (by omega))]
   rw [h2] at hu
   exact h.rst j _ _ hjk hu
  ·simp only [l6 _ _ e] at hj; exact h.rst j z v hjk hj
 ·refine ⟨hgr.os.trans h.frame.os, hgr.tape.trans h.frame.tape, hgr.output.trans h.frame.output, Nat.le_trans h.frame.size hgr.size, fun b hb hne => ?_⟩
  refine (hgr.block b (Nat.lt_of_lt_of_le hb h.frame.size) (fun e => ?_)).trans (h.frame.block b hb hne)
  rcases h.rfr k _ _ u b hu e.symm with h1 | h1
  ·omega
  ·exact hne h1.2.2
 ·obtain ⟨c0, T, h1, h2⟩ := h.bt j g hj hg
  exact ⟨c0, T, (hgr.block g (h.glt hg) (fun e => h.gr j g k _ _ u hg hu e.symm)).trans h1, h2⟩
theorem St.rowTurn (h : St w0 okA ext N s a w E) {k : Nat} {r r' : Row} {u u' : Value} {vs' : List Value} (hz0 : 0 < r.z) (hr : s.rw k = some r) (hu : E.rm k = some (r.ver, r.z, u))
  (hz : r'.z = r.z) (hv : r.ver <= r'.ver) (hvu : r.ver = r'.ver -> u = u') (hok : Y5 r'.z r'.es)
  (hgr : w.grownBy w' (u6 u)) (hown : w'.ownsRow 0 r'.E r'.z u' r'.es.length vs') (hrel : RRel w (okE w0 okA E) w0.heap.size r'.es.flatten vs') (hat : (u6 u') = (u6 u) ∨ (u6 u') = some w.heap.size) :
  St w0 okA ext N { s with rw := upd s.rw k (some r') } a w' ⟨E.gm, upd E.rm k (some (r'.ver, r'.z, u'))⟩ :=
 h.rowTurnG hr hu hz hv (fun e => by omega) (fun e => e.elim hvu (fun e => by omega)) (.of (by omega) hok) hgr (.inl ⟨by omega, hown⟩) hrel hat
theorem St.own (h : St w0 okA ext N s a w E) {k z c : Nat} {E0 : TypeId} (hz : 0 < z) (hk : s.tm k = .one (.g (.slice none 0 c))) (hc : c = 0) (hr : s.rw k = none) :
  St w0 okA ext N { s with tm := upd s.tm k (.one (.ow k 0)), rw := upd s.rw k (some ⟨0, E0, z, []⟩) } a w ⟨E.gm, upd E.rm k (some (0, z, .slice none 0 0))⟩ := by
 subst hc
 have hEk : E.rm k = none := h.rwn k hr
 have hle : EnvLe E ⟨E.gm, upd E.rm k (some (0, z, .slice none 0 0))⟩ := ⟨fun _ _ h => h, fun j ver z v hj => by
  have e : j ≠ k := by rintro rfl; rw [hEk] at hj; cases hj
  exact ⟨ver, v, by simp only [l6 _ _ e]; exact hj, Nat.le_refl _, fun _ => rfl⟩⟩
 have hrow : ∀ {j ver z' v}, (upd E.rm k (some (0, z, Value.slice none 0 0))) j = some (ver, z', v) -> ((u6 v) = none) ∨ (j ≠ k ∧ E.rm j = some (ver, z', v)) := fun {j ver z' v} hj => by
  by_cases e : j = k
  ·subst e; simp only [j6, Option.some.injEq, Prod.mk.injEq] at hj; exact .inl (by rw [<- hj.2.2]; rfl)
  ·simp only [l6 _ _ e] at hj; exact .inr ⟨e, hj⟩
 have hokb : ∀ b, b < w.heap.size -> okE w0 okA E b -> okE w0 okA ⟨E.gm, upd E.rm k (some (0, z, .slice none 0 0))⟩ b := fun b _ ho =>
  ⟨ho.1, fun j ver z' v hj => by
   rcases hrow hj with h1 | ⟨_, h1⟩
   ·rw [h1]; simp
   ·exact ho.2.1 j ver z' v h1, ho.2.2⟩
 have hmv : ∀ t, VRel w (okE w0 okA ⟨E.gm, upd E.rm k (some (0, z, .slice none 0 0))⟩) w0.heap.size ⟨E.gm, upd E.rm k (some (0, z, .slice none 0 0))⟩ (s.tm t) (a.tmps.getD t undef) :=
  fun t => (h.tm t).move (.refl _ w) hokb (Nat.le_refl _) hle
 refine ⟨h.size, h.defers, fun t => ?_, fun j cs hj => ?_, h.bxn, fun j q hq => ?_, fun j hj => ?_, h.ginj, fun j g j' ver z v hj hv' => ?_, fun j ver z v j' ver' z' v' b hj hj' hb hb' => ?_, h.gfr, h.gx, h.nx, fun j ver z' v b hj hb => ?_, fun j z' v hjk hj => ?_, h.frame, h.bt⟩
 ·by_cases e : t = k
  ·subst e
   simp only [j6]
   have h1 := h.tm t
   rw [hk] at h1
   cases h1 with
   | one h2 =>
    obtain ⟨h3, _⟩ := h2
    rw [h3]
    exact .one ⟨rfl, 0, z, .slice none 0 0, by simp [j6], Nat.le_refl _, fun _ => rfl, hz⟩
  ·simp only [l6 _ _ e]; exact hmv t
 ·obtain ⟨g, c0, ty', h1, h2, h3⟩ := h.bx j cs hj
  exact ⟨g, c0, ty', h1, h2, h3.move (.refl _ w) hokb (Nat.le_refl _) hle⟩
 ·by_cases e : j = k
  ·subst e; simp only [j6, Option.some.injEq] at hq; subst hq
   exact ⟨fun h0 => by simp only at h0; omega, .of hz (fun e he => by simp at he), .slice none 0 0, [], by simp [j6], .inl ⟨hz, World.ownsRow_nil _ _ _ _⟩, .nil⟩
  ·simp only [l6 _ _ e] at hq
   obtain ⟨h1, h2, v, vs, h3, h4, h5⟩ := h.rw j q hq
   exact ⟨h1, h2, v, vs, by simp only [l6 _ _ e]; exact h3, h4, h5.move (.refl _ w) hokb (Nat.le_refl _)⟩
 ·by_cases e : j = k
  ·subst e; simp [j6] at hj
  ·simp only [l6 _ _ e] at hj ⊢; exact h.rwn j hj
 ·rcases hrow hv' with h1 | ⟨_, h1⟩
  ·rw [h1]; simp
  ·exact h.gr j g j' ver z v hj h1
 ·rcases hrow hj with h1 | ⟨_, h1⟩
  ·rw [h1] at hb; cases hb
  ·rcases hrow hj' with h2 | ⟨_, h2⟩
   ·rw [h2] at hb'; cases hb'
   ·exact h.rr j _ _ v j' _ _ v' b h1 h2 hb hb'
 ·rcases hrow hj with h1 | ⟨_, h1⟩
  ·rw [h1] at hb; cases hb
  ·exact h.rfr j ver z' v b h1 hb
 ·by_cases e : j = k
  ·subst e
   have hkN : j < N := by
    apply Classical.byContradiction
    intro hno
    have h1 := h.tm j
    rw [hk] at h1
    have h2 : a.tmps.getD j undef = undef := by rw [Array.getD_eq_getD_getElem?, Array.getElem?_eq_none (by rw [h.size]; omega)]; rfl
    rw [h2] at h1
    cases h1 with
    | one h3 => exact absurd h3.1 (by intro e; cases e)
   have := h.nx
   simp only [XK] at hjk
   omega
  ·simp only [l6 _ _ e] at hj; exact h.rst j z' v hjk hj
def c2i : Cel -> Bool
 | .g (.slice none 0 0) => true
 | _ => false
theorem c5V {c : Cel} (h : c2i c = true) : c = .g (.slice none 0 0) := by
 unfold c2i at h
 split at h
 ·rfl
 ·cases h
theorem c4f {α : Type} (cs : List α) (off : Nat) (x : α) (h : off < cs.length) : (wr cs off [x]).length = cs.length := by
 unfold wr; simp; omega
theorem d2c {α : Type} (cs : List α) (off : Nat) (x : α) (h : off < cs.length) (i : Nat) : (wr cs off [x])[i]? = if i = off then some x else cs[i]? := by
 unfold wr
 all_goals grind
theorem St.ownBox (h : St w0 okA ext N s a w E) {k0 off k z : Nat} {cs : List Cel} {E0 : TypeId} (hz : 0 < z) (hk : s.bx k0 = some cs) (hnil : cs[off]?.map c2i = some true) (hkx : k < XK) (hr : s.rw k = none) :
  St w0 okA ext N { s with bx := upd s.bx k0 (some (wr cs off [.ow k 0])), rw := upd s.rw k (some ⟨0, E0, z, []⟩) } a w ⟨E.gm, upd E.rm k (some (0, z, .slice none 0 0))⟩ := by
 have hEk : E.rm k = none := h.rwn k hr
 have hle : EnvLe E ⟨E.gm, upd E.rm k (some (0, z, .slice none 0 0))⟩ := ⟨fun _ _ h => h, fun j ver z v hj => by
  have e : j ≠ k := by rintro rfl; rw [hEk] at hj; cases hj
  exact ⟨ver, v, by simp only [l6 _ _ e]; exact hj, Nat.le_refl _, fun _ => rfl⟩⟩
 have hrow : ∀ {j ver z' v}, (upd E.rm k (some (0, z, Value.slice none 0 0))) j = some (ver, z', v) -> ((u6 v) = none) ∨ (j ≠ k ∧ E.rm j = some (ver, z', v)) := fun {j ver z' v} hj => by
  by_cases e : j = k
  ·subst e; simp only [j6, Option.some.injEq, Prod.mk.injEq] at hj; exact .inl (by rw [<- hj.2.2]; rfl)
  ·simp only [l6 _ _ e] at hj; exact .inr ⟨e, hj⟩
 have hokb : ∀ b, b < w.heap.size -> okE w0 okA E b -> okE w0 okA ⟨E.gm, upd E.rm k (some (0, z, .slice none 0 0))⟩ b := fun b _ ho =>
  ⟨ho.1, fun j ver z' v hj => by
   rcases hrow hj with h1 | ⟨_, h1⟩
   ·rw [h1]; simp
   ·exact ho.2.1 j ver z' v h1, ho.2.2⟩
 have hmv : ∀ t, VRel w (okE w0 okA ⟨E.gm, upd E.rm k (some (0, z, .slice none 0 0))⟩) w0.heap.size ⟨E.gm, upd E.rm k (some (0, z, .slice none 0 0))⟩ (s.tm t) (a.tmps.getD t undef) :=
  fun t => (h.tm t).move (.refl _ w) hokb (Nat.le_refl _) hle
 refine ⟨h.size, h.defers, fun t => ?_, fun j cs' hj => ?_, fun j hj => ?_, fun j q hq => ?_, fun j hj => ?_, h.ginj, fun j g j' ver z v hj hv' => ?_, fun j ver z v j' ver' z' v' b hj hj' hb hb' => ?_, h.gfr, h.gx, h.nx, fun j ver z' v b hj hb => ?_, fun j z' v hjk hj => ?_, h.frame, h.bt⟩
 ·exact hmv t
 ·by_cases e : j = k0
  ·subst e
   simp only [j6, Option.some.injEq] at hj; subst hj
   obtain ⟨g, c0, ty', h1, h2, h3⟩ := h.bx j _ hk
   have h4 := h3.move (.refl _ w) hokb (Nat.le_refl _) hle
   have hlt : off < cs.length := by
    all_goals grind
   have hc : cs[off]? = some (.g (.slice none 0 0)) := by
    rw [List.getElem?_eq_getElem hlt] at hnil ⊢
    simp only [Option.map_some, Option.some.injEq] at hnil
    rw [c5V hnil]
   refine ⟨g, c0, ty', h1, h2, ?_, fun i c u hi hu => ?_⟩
   ·rw [c4f _ _ _ hlt]; exact h4.1
   ·rw [d2c _ _ _ hlt] at hi
    by_cases e : i = off
    ·subst e
     rw [if_pos rfl] at hi
     injection hi with hi; subst hi
     obtain ⟨rfl, _⟩ := h4.2 i _ u hc hu
     exact ⟨rfl, 0, z, .slice none 0 0, by simp [j6], Nat.le_refl _, fun _ => rfl, hz⟩
    ·rw [if_neg e] at hi
     exact h4.2 i c u hi hu
  ·simp only [l6 _ _ e] at hj
   obtain ⟨g, c0, ty', h1, h2, h3⟩ := h.bx j cs' hj
   exact ⟨g, c0, ty', h1, h2, h3.move (.refl _ w) hokb (Nat.le_refl _) hle⟩
 ·by_cases e : j = k0
  ·subst e; simp [j6] at hj
  ·simp only [l6 _ _ e] at hj; exact h.bxn j hj
 ·by_cases e : j = k
  ·subst e; simp only [j6, Option.some.injEq] at hq; subst hq
   exact ⟨fun h0 => by simp only at h0; omega, .of hz (fun e he => by simp at he), .slice none 0 0, [], by simp [j6], .inl ⟨hz, World.ownsRow_nil _ _ _ _⟩, .nil⟩
  ·simp only [l6 _ _ e] at hq
   obtain ⟨h1, h2, v, vs, h3, h4, h5⟩ := h.rw j q hq
   exact ⟨h1, h2, v, vs, by simp only [l6 _ _ e]; exact h3, h4, h5.move (.refl _ w) hokb (Nat.le_refl _)⟩
 ·by_cases e : j = k
  ·subst e; simp [j6] at hj
  ·simp only [l6 _ _ e] at hj ⊢; exact h.rwn j hj
 ·rcases hrow hv' with h1 | ⟨_, h1⟩
  ·rw [h1]; simp
  ·exact h.gr j g j' ver z v hj h1
 ·rcases hrow hj with h1 | ⟨_, h1⟩
  ·rw [h1] at hb; cases hb
  ·rcases hrow hj' with h2 | ⟨_, h2⟩
   ·rw [h2] at hb'; cases hb'
   ·exact h.rr j _ _ v j' _ _ v' b h1 h2 hb hb'
 ·rcases hrow hj with h1 | ⟨_, h1⟩
  ·rw [h1] at hb; cases hb
  ·exact h.rfr j ver z' v b h1 hb
 ·by_cases e : j = k
  ·subst e; omega
  ·simp only [l6 _ _ e] at hj; exact h.rst j z' v hjk hj
end
end Go.Ai
namespace Go.Ai
open Go
theorem r9 {α β : Type} (f : Nat -> Option α) (g : Nat -> α -> β) : ∀ (ks : List Nat) (k : Nat),
  f7 (ks.filterMap fun j => (f j).map fun x => (j, g j x)) k = if k ∈ ks then (f k).map (g k) else none
 | [], k => by simp [f7]
 | j :: ks, k => by
  have ih := r9 f g ks k
  simp only [List.filterMap_cons]
  cases hj : f j with
  | none =>
   all_goals grind
  | some x =>
   simp only [Option.map_some, f7, ih, List.mem_cons]
   all_goals grind
section
variable {w0 w w' : World} {okA : Nat -> Prop} {ext : Ext} {N : Nat} {s : AS} {a : Act} {E : Env}
def Env.keep (E : Env) (K : Kp) : Env := ⟨fun k => if k ∈ K.bs then E.gm k else Option.none, fun k => if k ∈ K.rs then (E.rm k).map (fun x => (K.q k x.1, x.2)) else Option.none⟩
theorem K6 {b : Nat} (K : Kp) (h : okE w0 okA E b) : okE w0 okA (E.keep K) b := by
 refine ⟨fun k => ?_, fun k ver z u hr => ?_, h.2.2⟩
 ·simp only [Env.keep]; split
  ·exact h.1 k
  ·simp
 ·simp only [Env.keep] at hr
  split at hr
  ·cases hk : E.rm k with
   | none => rw [hk] at hr; simp at hr
   | some x => obtain ⟨x1, x2, x3⟩ := x; rw [hk] at hr; simp at hr; obtain ⟨_, _, rfl⟩ := hr; exact h.2.1 k x1 x2 x3 hk
  ·cases hr
theorem u7 (g o n : Nat) : ((⟨g, o, none⟩ : Addr).add n) = ⟨g, o + n, none⟩ := by
 unfold Addr.add; split
 ·rename_i h; subst h; rfl
 ·rfl
theorem a0j {z : Nat} : ∀ {es : List (List Cel)}, (∀ e ∈ es, e.length = z) -> ∀ {i j : Nat} {e : List Cel} {x : Cel}, es[i]? = some e -> e[j]? = some x -> es.flatten[i * z + j]? = some x
 | [], _, i, j, e, x, he, _ => by simp at he
 | e0 :: es, hz, 0, j, e, x, he, hx => by
  grind
 | e0 :: es, hz, i + 1, j, e, x, he, hx => by
  simp at he
  have h0 : e0.length = z := hz e0 (by simp)
  have ih := a0j (es := es) (fun e h => hz e (by simp [h])) he hx
  grind
theorem a4P {z n : Nat} {es : List (List Cel)} {vs : List Value} {base : Nat} {ok : Nat -> Prop} (hz : Y5 z es) (hrel : RRel w ok base es.flatten vs) {i j : Nat} {e : List Cel} {x : Cel} (he : es[i]? = some e) (hx : e[j]? = some x) :
  vs[i * z + j]? = some (vs.getD (i * z + j) undef) ∧ x.isD = true ∧ CRel0 w ok base Env.none x (vs.getD (i * z + j) undef) := by
 have h1 := a0j hz he hx
 obtain ⟨u, h2, h3, h4⟩ := hrel.at_ h1
 grind
theorem CRel0.toDR {c : Cel} {v : Value} {ok ok' : Nat -> Prop} {base : Nat} {E' : Env} (hd : c.isD = true) (h : CRel0 w ok base E' c v) (hok : ∀ b, ok b -> ok' b) : DRel w ok' c v := by
 cases c with
 | g u => obtain ⟨rfl, h⟩ := h; exact .g h
 | any => exact .any h
 | sl fr z es =>
  cases fr with
  | false => exact DRel.keep h (.refl _ w) (fun b _ ho => hok b ho)
  | true => exact DRel.keep (ok := fun b => base <= b ∧ ok b) h (.refl _ w) (fun b _ ho => hok b ho.2)
 | fm kc es => exact DRel.keep h (.refl _ w) (fun b _ ho => hok b ho)
 | _ => simp [Cel.isD] at hd
theorem CRel0.toFR {c : Cel} {v : Value} {ok : Nat -> Prop} {base : Nat} {E' : Env} (hd : o6 c = true) (h : CRel0 w ok base E' c v) : DRel w (fun b => base <= b ∧ ok b) c v := by
 cases c with
 | g u => obtain ⟨rfl, h⟩ := h; exact .g h
 | any => exact .any h
 | sl fr z es =>
  cases fr with
  | false => simp [o6] at hd
  | true => exact h
 | _ => simp [o6] at hd
theorem c1v {base n : Nat} {E0 : TypeId} {z : Nat} {u : Value} {es : List (List Cel)} {vs : List Value} {fr : Bool} {ok : Nat -> Prop} (hz : Y5 z es) (hown : w.ownsRow base E0 z u n vs) (hn : n = es.length) (hl : vs.length = es.flatten.length)
  (hrel : ∀ i j e x, es[i]? = some e -> e[j]? = some x -> DRel w ok x (vs.getD (i * z + j) undef))
  (hok : ∀ b, (u6 u) = some b -> ok b) : DRel w ok (.sl fr z es) u := by
 subst hn
 rcases hown.2 with ⟨rfl, h0⟩ | ⟨g, cap, cur, rfl, hb, hg, hnc, hcm, hcs, htake⟩
 ·have : es = [] := List.eq_nil_of_length_eq_zero h0
  subst this; exact .nil
 ·have hlt : g < w.heap.size := by
   all_goals grind
  refine .sl (fun i j => vs.getD (i * z + j) undef) rfl hnc (hok g rfl) hlt hz (fun i e j x he hx => ?_) (fun i e j x he hx => hrel i j e x he hx)
  have h1 := a0j hz he hx
  have h2 : i * z + j < vs.length := by rw [hl]; exact (List.getElem?_eq_some_iff.1 h1).1
  have h3 := hown.cells (g := g) rfl _ _ (List.getElem?_eq_getElem h2)
  rw [u7, <- Nat.add_assoc] at h3
  grind
theorem a3e {base n : Nat} {E0 : TypeId} {z : Nat} {u : Value} {es : List (List Cel)} {vs : List Value} {fr : Bool} {ok ok0 : Nat -> Prop} {base0 : Nat} (hz : Y5 z es) (hown : w.ownsRow base E0 z u n vs) (hn : n = es.length) (hrel : RRel w ok0 base0 es.flatten vs) (hle : ∀ b, ok0 b -> ok b)
  (hok : ∀ b, (u6 u) = some b -> ok b) : DRel w ok (.sl fr z es) u :=
 c1v hz hown hn hrel.1.symm (fun i j e x he hx => by
  obtain ⟨_, h2, h3⟩ := a4P (n := n) hz hrel he hx
  exact h3.toDR h2 hle) hok
theorem b2i {base n : Nat} {E0 : TypeId} {z : Nat} {u : Value} {es : List (List Cel)} {vs : List Value} {ok : Nat -> Prop} {base0 : Nat} {E' : Env} (hz : Y5 z es) (hown : w.ownsRow base E0 z u n vs) (hn : n = es.length) (hrel : RRel w ok base0 es.flatten vs)
  (hok : ∀ b, (u6 u) = some b -> base0 <= b ∧ ok b) : CRel0 w ok base0 E' (.sl (frE es) z es) u := by
 show DRel w (if frE es = true then (fun b => base0 <= b ∧ ok b) else ok) (.sl (frE es) z es) u
 cases hf : frE es with
 | false => exact a3e hz hown hn hrel (fun b h => h) (fun b hb => (hok b hb).2)
 | true =>
  refine c1v hz hown hn hrel.1.symm (fun i j e x he hx => ?_) hok
  obtain ⟨_, h2, h3⟩ := a4P (n := n) hz hrel he hx
  have h4 : o6 x = true := List.all_eq_true.1 (List.all_eq_true.1 hf e (List.mem_of_getElem? he)) x (List.mem_of_getElem? hx)
  exact h3.toFR h4
theorem a7D {n c : Nat} {u : Value} {es : List (List Cel)} {vs : List Value} {ok ok0 : Nat -> Prop} {base0 : Nat} (hz : a9H es) (hown : owns w 0 c 0 u n vs) (hn : n = es.length) (hrel : RRel w ok0 base0 es.flatten vs) (hle : ∀ b, ok0 b -> ok b)
  (hok : ∀ b, (u6 u) = some b -> ok b) : DRel w ok (.fm c es) u := by
 rcases hown with ⟨h0, _⟩ | ⟨_, b, ms, clock, rfl, _, hg, hsz, rfl, hk⟩
 ·omega
 ·subst hn
  have hlt : b < w.heap.size := (Array.getElem?_eq_some_iff.1 hg).1
  have hsh : ∀ (i : Nat) (e : MapEntry), ms.toList[i]? = some e -> ∃ k0 c0, es[i]? = some [.g k0, c0] := fun i e he => by
   have hi : i < es.length := by rw [<- hsz, <- Array.length_toList]; exact (List.getElem?_eq_some_iff.1 he).1
   obtain ⟨k0, c0, h1⟩ := hz es[i] (List.getElem_mem hi)
   grind
  have hval : ∀ (ms : List MapEntry) (i : Nat) (e : MapEntry), ms[i]? = some e -> ((ms.map fun e => [e.key, a0z e.val]).flatten)[i * 2]? = some e.key ∧ ((ms.map fun e => [e.key, a0z e.val]).flatten)[i * 2 + 1]? = some (a0z e.val) := fun ms => by
   induction ms with
   | nil => intro i e h; simp at h
   | cons m ms ih =>
    grind
  have hes : Y5 2 es := fun e he => by obtain ⟨k0, c0, rfl⟩ := hz e he; rfl
  have hat : ∀ (i : Nat) (e : MapEntry), ms.toList[i]? = some e -> ∃ c0, es[i]? = some [.g e.key, c0] ∧ c0.isD = true ∧ CRel0 w ok0 base0 Env.none c0 (a0z e.val) := fun i e he => by
   obtain ⟨k0, c0, h1⟩ := hsh i e he
   obtain ⟨h2, h3⟩ := hval ms.toList i e he
   obtain ⟨h4, _, h5⟩ := a4P (n := 0) hes hrel h1 (j := 0) rfl
   obtain ⟨h6, h7, h8⟩ := a4P (n := 0) hes hrel h1 (j := 1) rfl
   rw [Nat.add_zero, h2] at h4
   rw [h3] at h6
   injection h4 with h4
   injection h6 with h6
   rw [Nat.add_zero, <- h4] at h5
   rw [<- h6] at h8
   obtain ⟨rfl, _⟩ := h5
   exact ⟨c0, h1, h7, h8⟩
  refine .fm (fun i => (es.getD i []).getD 1 .any) (hok b rfl) hlt hg hsz.symm (fun i e he => ?_) (fun i e he => ?_)
  ·grind
  ·obtain ⟨c0, h1, h2, h3⟩ := hat i e he
   have h9 : (es.getD i []).getD 1 .any = c0 := by simp [List.getD_eq_getElem?_getD, h1]
   rw [h9]
   exact h3.toDR h2 hle
theorem C1 (h : St w0 okA ext N s a w E) (K : Kp) {c : Cel} {v : Value} (hc : CRel0 w (okE w0 okA E) w0.heap.size E c v) :
  CRel0 w (okE w0 okA (E.keep K)) w0.heap.size (E.keep K) (s.renC K c) v := by
 have hk : Keeps (okE w0 okA E) w w := .refl _ w
 cases c with
 | g u => exact hc
 | sl fr z es =>
  cases fr with
  | false => exact DRel.keep hc hk (fun b _ ho => K6 K ho)
  | true => exact DRel.keep (ok' := fun b => w0.heap.size <= b ∧ okE w0 okA (E.keep K) b) hc (.refl _ w) (fun b _ ho => ⟨ho.1, K6 K ho.2⟩)
 | ep cs =>
  obtain ⟨b, off, us, rfl, ho, hlt, hcs⟩ := hc
  exact ⟨b, off, us, rfl, K6 K ho, hlt, fun j x hx => ⟨(hcs j x hx).1, (hcs j x hx).2.keep hk (fun b _ ho => K6 K ho)⟩⟩
 | bx k off =>
  simp only [AS.renC]
  split
  ·obtain ⟨g, hg, rfl⟩ := hc
   rename_i hin
   exact ⟨g, by simp [Env.keep, hin, hg], rfl⟩
  ·obtain ⟨g, hg, rfl⟩ := hc; rfl
 | ow k ver =>
  simp only [AS.renC]
  obtain ⟨h1, ver', z, u, hr, hle, hv, hzp⟩ := hc
  cases hs : s.rw k with
  | none => exact h1
  | some r =>
   simp only []
   split
   ·rename_i hver
    obtain ⟨_, hro, u', vs, hu', hown, hrel⟩ := h.rwS hs (h.zpos hs hr hzp)
    have hr2 := hr
    rw [hr] at hu'
    simp only [Option.some.injEq, Prod.mk.injEq] at hu'
    obtain ⟨rfl, rfl, rfl⟩ := hu'
    split
    ·rename_i hin
     exact ⟨h1, K.q k r.ver, r.z, u, by simp [Env.keep, hin, hr], by rw [hver]; exact Nat.le_refl _, fun _ => hv hver, hzp⟩
    ·rename_i hin
     split
     ·rename_i hxk
      rw [hv hver]
      have hdrop : ∀ b, (u6 u) = some b -> w0.heap.size <= b ∧ okE w0 okA (E.keep K) b := fun b hb => by
       have hb0 : w0.heap.size <= b := by
        rcases h.rfr k _ _ u b hr2 hb with h2 | h2
        ·exact h2
        ·have := h2.1; omega
       refine ⟨hb0, fun j => ?_, fun j ver' z' u' hj => ?_, .inl hb0⟩
       ·simp only [Env.keep]; split
        ·exact fun hj => h.gr j b k _ _ u hj hr2 hb
        ·simp
       ·simp only [Env.keep] at hj
        split at hj
        ·rename_i hin'
         cases hk : E.rm j with
         | none => rw [hk] at hj; simp at hj
         | some x =>
          obtain ⟨x1, x2, x3⟩ := x
          rw [hk] at hj; simp at hj; obtain ⟨_, _, rfl⟩ := hj
          intro hb'
          have := h.rr j x1 x2 x3 k _ _ u b hk hr2 hb' hb
          subst this; exact hin hin'
        ·cases hj
      have hrel' : RRel w (okE w0 okA (E.keep K)) w0.heap.size r.es.flatten vs := hrel.move (.refl _ w) (fun b _ ho => K6 K ho) (Nat.le_refl _)
      exact b2i hro hown rfl hrel' hdrop
     ·exact h1
   ·exact h1
 | op k ver i off =>
  simp only [AS.renC]
  split
  ·rename_i hin
   obtain ⟨h1, ver', z, u, hr, hle, hv, hzp⟩ := hc
   cases hs : s.rw k with
   | none => exact h1
   | some r =>
    simp only []
    split
    ·rename_i hver
     obtain ⟨_, _, u', _, hu', _⟩ := h.rw k r hs
     rw [hr] at hu'
     simp only [Option.some.injEq, Prod.mk.injEq] at hu'
     obtain ⟨rfl, rfl, rfl⟩ := hu'
     exact ⟨h1, K.q k r.ver, r.z, u, by simp [Env.keep, hin, hr], by rw [hver]; exact Nat.le_refl _, fun _ => hv hver, hzp⟩
    ·exact h1
  ·exact hc.1
 | mp k =>
  simp only [AS.renC]
  obtain ⟨h1, ver', u, hr, hv⟩ := hc
  split
  ·rename_i hin
   exact ⟨h1, K.q k ver', u, by simp [Env.keep, hin, hr], hv⟩
  ·rename_i hin
   cases hs : s.rw k with
   | none => exact h1
   | some r =>
    simp only []
    split
    ·rename_i hxk
     subst hv
     obtain ⟨_, hro, u', vs, hu', hown, hrel⟩ := h.rw k r hs
     have hr2 := hr
     rw [hr] at hu'
     simp only [Option.some.injEq, Prod.mk.injEq] at hu'
     obtain ⟨rfl, hz0, rfl⟩ := hu'
     rw [<- hz0] at hown
     refine a7D (hro.2 hz0.symm) hown rfl hrel (fun b ho => K6 K ho) (fun b hb => ?_)
     have hb0 : w0.heap.size <= b := by
      rcases h.rfr k _ _ _ b hr2 hb with h2 | h2
      ·exact h2
      ·have := h2.1; omega
     refine ⟨fun j => ?_, fun j ver' z' u' hj => ?_, .inl hb0⟩
     ·simp only [Env.keep]; split
      ·exact fun hj => h.gr j b k _ _ _ hj hr2 hb
      ·simp
     ·simp only [Env.keep] at hj
      split at hj
      ·rename_i hin'
       cases hk : E.rm j with
       | none => rw [hk] at hj; simp at hj
       | some x =>
        obtain ⟨x1, x2, x3⟩ := x
        rw [hk] at hj; simp at hj; obtain ⟨_, _, rfl⟩ := hj
        intro hb'
        have := h.rr j x1 x2 x3 k _ _ _ b hk hr2 hb' hb
        subst this; exact hin hin'
      ·cases hj
    ·exact h1
 | fm kc es => exact DRel.keep hc hk (fun b _ ho => K6 K ho)
 | ws k ver lo hi => exact hc.1
 | os k ver lo =>
  simp only [AS.renC]
  split
  ·rename_i hin
   obtain ⟨h1, ver', z, u, hr, hle, hv, hzp⟩ := hc
   cases hs : s.rw k with
   | none => exact h1
   | some r =>
    simp only []
    split
    ·rename_i hver
     obtain ⟨_, _, u', _, hu', _⟩ := h.rw k r hs
     rw [hr] at hu'
     simp only [Option.some.injEq, Prod.mk.injEq] at hu'
     obtain ⟨rfl, rfl, rfl⟩ := hu'
     exact ⟨h1, K.q k r.ver, r.z, u, by simp [Env.keep, hin, hr], by rw [hver]; exact Nat.le_refl _, fun _ => hv hver, hzp⟩
    ·exact h1
  ·exact hc.1
 | fn f caps => exact hc.elim
 | any => exact hc
theorem a7q (h : St w0 okA ext N s a w E) (K : Kp) {c : Cel} {v : Value} (hc : CRel w (okE w0 okA E) w0.heap.size E c v) :
  CRel w (okE w0 okA (E.keep K)) w0.heap.size (E.keep K) (s.renC K c) v := by
 have key : ∀ {c}, CRel0 w (okE w0 okA (E.keep K)) w0.heap.size (E.keep K) c v -> CRel w (okE w0 okA (E.keep K)) w0.heap.size (E.keep K) c v := fun {c} h => by
  cases c <;> first | exact h | exact h.elim
 cases c with
 | fn f caps =>
  simp only [AS.renC]
  split
  ·rename_i hall
   obtain ⟨us, rfl, hl, hcs⟩ := hc
   refine ⟨us, rfl, hl, fun i c u h1 h2 => ?_⟩
   have h3 := hcs i c u h1 h2
   have h4 := (List.all_eq_true.1 hall) c (List.mem_of_getElem? h1)
   cases c with
   | bx k off =>
    obtain ⟨g, hg, rfl⟩ := h3
    have h5 : k ∈ K.bs := by simpa using h4
    exact ⟨g, by simp [Env.keep, h5, hg], rfl⟩
   | g u => exact h3
   | ep cs => exact C1 h K (c := .ep cs) h3
   | _ => simp at h4
  ·obtain ⟨us, rfl, _⟩ := hc; rfl
 | g u => exact key (C1 h K (c := .g u) hc)
 | sl fr z es => exact key (C1 h K (c := .sl fr z es) hc)
 | ep cs => exact key (C1 h K (c := .ep cs) hc)
 | bx k off => exact key (C1 h K (c := .bx k off) hc)
 | ow k ver => exact key (C1 h K (c := .ow k ver) hc)
 | op k ver i off => exact key (C1 h K (c := .op k ver i off) hc)
 | os k ver lo => exact key (C1 h K (c := .os k ver lo) hc)
 | ws k ver lo hi => exact key (C1 h K (c := .ws k ver lo hi) hc)
 | mp k => exact key (C1 h K (c := .mp k) hc)
 | fm kc es => exact key (C1 h K (c := .fm kc es) hc)
 | any => exact key (C1 h K (c := .any) hc)
theorem a0M (h : St w0 okA ext N s a w E) (K : Kp) {x : Val} {v : Value} (hc : VRel w (okE w0 okA E) w0.heap.size E x v) :
  VRel w (okE w0 okA (E.keep K)) w0.heap.size (E.keep K) (s.ren K x) v := by
 cases hc with
 | one h1 => exact .one (a7q h K h1)
 | ag h1 =>
  refine .ag ⟨by simpa using h1.1, fun i c u h2 h3 => ?_⟩
  rw [List.getElem?_map] at h2
  cases hi : (_ : List Cel)[i]? with
  | none => rw [hi] at h2; cases h2
  | some c0 => rw [hi] at h2; simp at h2; subst h2; exact a7q h K (h1.2 i c0 u hi h3)
 | tu => exact .any
 | any => exact .any
theorem a8U (f : Nat -> Val) : ∀ (ks : List Nat) (t : Nat), m7 (ks.map fun t => (t, f t)) t = if t ∈ ks then f t else .any
 | [], t => rfl
 | k :: ks, t => by
  simp only [List.map_cons, m7, a8U f ks t, List.mem_cons]
  all_goals grind
theorem St.keepE (h : St w0 okA ext N s a w E) (K : Kp) (hq : (∀ k v, XK <= k -> K.q k v = 0 -> v = 0) ∨ ∀ k u, ext.r0 k u) (hq0 : ∀ k, K.q k 0 = 0) : St w0 okA ext N (s.keepK K) a w (E.keep K) := by
 ·skip
  have hbx : ∀ k, (s.keepK K).bx k = if k ∈ K.bs then (s.bx k).map (fun cs => cs.map (s.renC K)) else none := fun k => r9 s.bx (fun _ cs => cs.map (s.renC K)) K.bs k
  have hrw : ∀ k, (s.keepK K).rw k = if k ∈ K.rs then (s.rw k).map (fun r => { r with ver := K.q k r.ver }) else none := fun k => r9 (β := Row) s.rw (fun k r => { r with ver := K.q k r.ver }) K.rs k
  have htm : ∀ t, (s.keepK K).tm t = if t ∈ K.ts then s.ren K (s.tm t) else .any := fun t => a8U (fun t => s.ren K (s.tm t)) K.ts t
  have hgm : ∀ {k g}, (E.keep K).gm k = some g -> E.gm k = some g := fun {k g} hk => by
   simp only [Env.keep] at hk; split at hk
   ·exact hk
   ·cases hk
  have hrm : ∀ {k ver z u}, (E.keep K).rm k = some (ver, z, u) -> ∃ ver', E.rm k = some (ver', z, u) := fun {k ver z u} hk => by
   simp only [Env.keep] at hk; split at hk
   ·cases hx : E.rm k with
    | none => rw [hx] at hk; cases hk
    | some x => obtain ⟨x1, x2, x3⟩ := x; rw [hx] at hk; simp at hk; obtain ⟨_, rfl, rfl⟩ := hk; exact ⟨x1, rfl⟩
   ·cases hk
  refine ⟨h.size, h.defers, fun t => ?_, fun k cs hk => ?_, fun k hk => ?_, fun k r hk => ?_, fun k hk => ?_, fun k k' g h1 h2 => h.ginj k k' g (hgm h1) (hgm h2), fun k g k' ver z u h1 h2 => ?_, fun k ver z u k' ver' z' u' b h1 h2 => ?_, fun k g h1 => h.gfr k g (hgm h1), fun k g hk h1 => h.gx k g hk (hgm h1), h.nx, fun k ver z u b h1 hb => (hrm h1).elim fun v' h2 => h.rfr k v' z u b h2 hb, fun k z u hk h1 => ?_, h.frame, fun k g hk hg => h.bt k g hk (hgm hg)⟩
  ·rw [htm]; split
   ·exact a0M h K (h.tm t)
   ·exact .any
  ·rw [hbx] at hk
   split at hk
   ·rename_i hin
    cases hx : s.bx k with
    | none => rw [hx] at hk; cases hk
    | some cs0 =>
     rw [hx] at hk; simp at hk; subst hk
     obtain ⟨g, cur, ty, h1, h2, h3⟩ := h.bx k cs0 hx
     refine ⟨g, cur, ty, by simp [Env.keep, hin, h1], h2, by simpa using h3.1, fun i c u h4 h5 => ?_⟩
     rw [List.getElem?_map] at h4
     cases hi : cs0[i]? with
     | none => rw [hi] at h4; cases h4
     | some c0 => rw [hi] at h4; simp at h4; subst h4; exact a7q h K (h3.2 i c0 u hi h5)
   ·cases hk
  ·rw [hbx] at hk
   simp only [Env.keep]
   split at hk
   ·rename_i hin
    rw [if_pos hin]
    exact h.bxn k (by simpa using hk)
   ·grind
  ·rw [hrw] at hk
   split at hk
   ·rename_i hin
    cases hx : s.rw k with
    | none => rw [hx] at hk; cases hk
    | some r0 =>
     rw [hx] at hk; simp at hk; subst hk
     obtain ⟨h1, h2, u, vs, h3, h4, h5⟩ := h.rw k r0 hx
     exact ⟨fun h0 => by show K.q k r0.ver = 0; rw [h1 h0]; exact hq0 k, h2, u, vs, by simp [Env.keep, hin, h3], h4, h5.move (.refl _ w) (fun b _ ho => K6 K ho) (Nat.le_refl _)⟩
   ·cases hk
  ·rw [hrw] at hk
   simp only [Env.keep]
   split at hk
   ·rename_i hin
    rw [if_pos hin, h.rwn k (by simpa using hk)]; rfl
   ·grind
  ·obtain ⟨v', h3⟩ := hrm h2; exact h.gr k g k' v' z u (hgm h1) h3
  ·obtain ⟨v1, h3⟩ := hrm h1; obtain ⟨v2, h4⟩ := hrm h2; exact h.rr k v1 z u k' v2 z' u' b h3 h4
  ·simp only [Env.keep] at h1; split at h1
   ·cases hx : E.rm k with
    | none => rw [hx] at h1; cases h1
    | some x =>
     obtain ⟨x1, x2, x3⟩ := x
     rw [hx] at h1; simp at h1
     obtain ⟨h2, rfl, rfl⟩ := h1
     rcases hq with hq | hq
     ·have h3 := hq k x1 hk h2
      subst h3
      exact h.rst k _ _ hk hx
     ·exact hq _ _
   ·cases h1
theorem St.keep (h : St w0 okA ext N s a w E) (Ko : Option Keep) : ∃ E', St w0 okA ext N (s.keep Ko) a w E' := by
 cases Ko with
 | none => exact ⟨E, h⟩
 | some K => exact ⟨_, h.keepE (K.at kv) (.inl fun k v hk hv => by
  have hv : kv k v = 0 := hv
  unfold kv at hv; rw [if_neg (by omega)] at hv; omega) (fun k => by show kv k 0 = 0; unfold kv; split <;> rfl)⟩
theorem St.free (h : St w0 okA ext N s a w E) : St w0 okA ⟨ext.blk, ext.gk, ext.rk, fun _ _ => True, ext.bT⟩ N s a w E :=
 ⟨h.size, h.defers, h.tm, h.bx, h.bxn, h.rw, h.rwn, h.ginj, h.gr, h.rr, h.gfr, h.gx, h.nx, h.rfr, fun _ _ _ _ _ => trivial, h.frame, h.bt⟩
/-! ### What a callee sees -/
theorem CRel.toD {c : Cel} {v : Value} {ok ok' : Nat -> Prop} {base : Nat} (h : St w0 okA ext N s a w E) (hc : CRel w ok base E c v) (hok : ∀ b, ok b -> ok' b) (hw : ∀ b, okE w0 okA E b -> ok' b) (hrow : ∀ k ver z u b, E.rm k = some (ver, z, u) -> (u6 u) = some b -> ok' b) : DRel w ok' (s.dataV c) v := by
 have hone := hc.oneC
 cases c with
 | g u => obtain ⟨rfl, h1⟩ := hc; exact .g h1
 | sl fr z es =>
  have h2 : DRel w ok' (.sl fr z es) v := by
   cases fr with
   | false => exact DRel.keep hc (.refl _ w) (fun b _ h => hok b h)
   | true => exact DRel.keep (ok := fun b => base <= b ∧ ok b) hc (.refl _ w) (fun b _ h => hok b h.2)
  simp only [AS.dataV]
  cases h2 with
  | nil => exact .nil
  | sl us h1 h2 h3 h4 h5 h6 h7 => exact .sl us h1 h2 h3 h4 h5 h6 h7
 | fm kc es => exact DRel.keep hc (.refl _ w) (fun b _ h => hok b h)
 | mp k =>
  simp only [AS.dataV]
  cases hs : s.rw k with
  | none => exact .any hone
  | some r =>
   obtain ⟨h1, ver', u, hr, rfl⟩ := hc
   obtain ⟨_, hro, u', vs, hu', hown, hrel⟩ := h.rw k r hs
   have hr2 := hr
   rw [hr] at hu'
   simp only [Option.some.injEq, Prod.mk.injEq] at hu'
   obtain ⟨rfl, hz0, rfl⟩ := hu'
   rw [<- hz0] at hown
   exact a7D (hro.2 hz0.symm) hown rfl hrel hw (fun b hb => hrow k _ _ _ b hr2 hb)
 | ow k ver =>
  simp only [AS.dataV]
  cases hs : s.rw k with
  | none => exact .any hone
  | some r =>
   simp only []
   split
   ·rename_i hver
    obtain ⟨h1, ver', z, u, hr, hle, hv, hzp⟩ := hc
    obtain ⟨_, h2, u', vs, hu', h3, h4⟩ := h.rwS hs (h.zpos hs hr hzp)
    rw [hr] at hu'
    simp only [Option.some.injEq, Prod.mk.injEq] at hu'
    obtain ⟨rfl, rfl, rfl⟩ := hu'
    rw [hv hver]
    exact a3e h2 h3 rfl h4 hw (fun b hb => hrow k _ _ _ b hr hb)
   ·exact .any hone
 | _ => exact .any hone
theorem DRel.toC0 {c : Cel} {v : Value} {ok : Nat -> Prop} {base : Nat} {E' : Env} (h : DRel w ok c v) (hc : ∀ fr z es, c = .sl fr z es -> fr = false) : CRel0 w ok base E' c v := by
 cases h with
 | g hv => exact ⟨rfl, hv⟩
 | any hv => exact hv
 | nil => have := hc _ _ _ rfl; subst this; exact DRel.nil
 | sl us h1 h2 h3 h4 h5 h6 h7 => have := hc _ _ _ rfl; subst this; exact DRel.sl us h1 h2 h3 h4 h5 h6 h7
 | fm cs h1 h2 h3 h4 h5 h6 => exact DRel.fm cs h1 h2 h3 h4 h5 h6
theorem v8 (h : St w0 okA ext N s a w E) {c : Cel} {v : Value} {ok ok' : Nat -> Prop} {base base' : Nat} {E' : Env} (hc : CRel0 w ok base E c v) (hok : ∀ b, ok b -> ok' b) (hw : ∀ b, okE w0 okA E b -> ok' b)
  (hrow : ∀ k ver z u b, s.rw k ≠ none -> E.rm k = some (ver, z, u) -> (u6 u) = some b -> ok' b) (hbox : ∀ k g, s.bx k ≠ none -> E.gm k = some g -> ok' g) :
  CRel0 w ok' base' E' (s.viewC0 c) v := by
 have hrow' : ∀ k ver z u b, E.rm k = some (ver, z, u) -> (u6 u) = some b -> ok' b := fun k ver z u b hr hb => by
  by_cases hs : s.rw k = none
  ·rw [h.rwn k hs] at hr; cases hr
  ·grind
 have hone := hc.oneC
 cases c with
 | g u => exact hc
 | sl fr z es => exact (CRel.toD (ok' := ok') (base := base) h (c := .sl fr z es) hc hok hw hrow').toC0 (by intro fr z es he; simp [AS.dataV] at he; exact he.1)
 | ep cs =>
  obtain ⟨b, off, us, rfl, ho, hlt, hcs⟩ := hc
  exact ⟨b, off, us, rfl, hok b ho, hlt, fun j x hx => ⟨(hcs j x hx).1, (hcs j x hx).2.keep (.refl _ w) (fun b _ h => hok b h)⟩⟩
 | bx k off =>
  simp only [AS.viewC0]
  cases hs : s.bx k with
  | none => exact hone
  | some cs =>
   obtain ⟨g, hg, rfl⟩ := hc
   obtain ⟨g', cur, ty, h1, h2, h3⟩ := h.bx k cs hs
   rw [hg] at h1; injection h1 with h1; subst h1
   refine ⟨g, off, fun j => (cur.toList[off + j]?).getD undef, rfl, hbox k g (by simp [hs]) hg, h.glt hg, fun j x hx => ?_⟩
   rw [List.getElem?_map] at hx
   cases hi : (cs.drop off)[j]? with
   | none => rw [hi] at hx; cases hx
   | some c0 =>
    rw [hi] at hx; simp at hx; subst hx
    rw [List.getElem?_drop] at hi
    obtain ⟨u, h4, h5⟩ := h3.at_ hi
    refine ⟨?_, ?_⟩
    ·rw [cell_of_row w g (off + j) cur ty (0, 0) h2, <- Array.getElem?_toList, h4]; simp only [h4, Option.getD_some]
    ·simp only [h4, Option.getD_some]; exact CRel.toD h h5 hw hw hrow'
 | ow k ver =>
  simp only [AS.viewC0]
  cases hs : s.rw k with
  | none => exact hone
  | some r =>
   simp only []
   split
   ·rename_i hver
    have h6 := CRel.toD (ok := ok) (ok' := ok') (base := base) h (c := .ow k ver) hc hok hw hrow'
    simp only [AS.dataV, hs, hver, if_true] at h6
    exact h6.toC0 (by intro fr z es he; injection he with h1 _; exact h1.symm)
   ·exact hone
 | op k ver i off =>
  simp only [AS.viewC0]
  cases hs : s.rw k with
  | none => exact hone
  | some r =>
   simp only []
   split
   ·rename_i hver
    cases he : r.es[i]? with
    | none => exact hone
    | some e =>
     obtain ⟨h1, ver', z, u, hr, hle, hv, hzp⟩ := hc
     obtain ⟨_, h2, u', vs, hu', h3, h5⟩ := h.rwS hs (h.zpos hs hr hzp)
     rw [hr] at hu'
     simp only [Option.some.injEq, Prod.mk.injEq] at hu'
     obtain ⟨rfl, rfl, rfl⟩ := hu'
     obtain ⟨g, n, c, rfl, rfl⟩ := hv hver
     refine ⟨g, i * r.z + off, fun j => vs.getD (i * r.z + (off + j)) undef, rfl, hrow k _ _ _ g (by simp [hs]) hr rfl, h.rlt hr rfl, fun j x hx => ?_⟩
     have hx' := hx
     rw [List.getElem?_drop] at hx'
     obtain ⟨h6, h7, h8⟩ := a4P (n := 0) h2 h5 he hx'
     have h4 := h3.cells (g := g) rfl _ _ h6
     rw [u7, Nat.zero_add, <- Nat.add_assoc] at h4
     exact ⟨by rw [h4, Nat.add_assoc], h8.toDR h7 hw⟩
   ·exact hone
 | ws k ver lo hi =>
  simp only [AS.viewC0]
  cases hs : s.rw k with
  | none => exact hone
  | some r =>
   simp only []
   split
   ·rename_i hver
    obtain ⟨h1, ver', z, u, hr, hle, hv, hzp⟩ := hc
    obtain ⟨_, h2, u', vs, hu', h3, h5⟩ := h.rwS hs (h.zpos hs hr hzp)
    rw [hr] at hu'
    simp only [Option.some.injEq, Prod.mk.injEq] at hu'
    obtain ⟨rfl, rfl, rfl⟩ := hu'
    obtain ⟨g, n, c, A, c', rfl, hlh, hhn, rfl, hcc, hA⟩ := hv hver
    have hn : n = r.es.length := by
     rcases h3.2 with ⟨h6, _⟩ | ⟨g', cap, cur, h6, _⟩
     ·cases h6
     ·injection h6
    have hlen : ((r.es.take hi).drop lo).length = hi - lo := by rw [List.length_drop, List.length_take]; omega
    show DRel w _ (.sl false r.z ((r.es.take hi).drop lo)) _
    by_cases hlt : lo < hi
    ·rw [hA hlt]
     refine DRel.sl (fun i j => vs.getD ((lo + i) * r.z + j) undef) hlen.symm hcc (hrow k _ _ _ g (by simp [hs]) hr rfl) (h.rlt hr rfl) (fun e he => h2 e (List.mem_of_mem_take (List.mem_of_mem_drop he))) (fun i e j x he hx => ?_) (fun i e j x he hx => ?_)
     ·have he' : r.es[lo + i]? = some e := by
       grind
      obtain ⟨h6, h7, h8⟩ := a4P (n := 0) h2 h5 he' hx
      have h4 := h3.cells (g := g) rfl _ _ h6
      rw [u7, Nat.zero_add] at h4
      grind
     ·have he' : r.es[lo + i]? = some e := by
       grind
      obtain ⟨h6, h7, h8⟩ := a4P (n := 0) h2 h5 he' hx
      exact h8.toDR h7 hw
    ·have h0 : (r.es.take hi).drop lo = [] := List.eq_nil_of_length_eq_zero (by omega)
     rw [h0, show hi - lo = 0 by omega]
     exact .nil
   ·exact hone
 | os k ver lo => exact hone
 | mp k =>
  simp only [AS.viewC0]
  cases hs : s.rw k with
  | none => exact hone
  | some r =>
   have h6 := CRel.toD (ok := ok) (ok' := ok') (base := base) h (c := .mp k) hc hok hw hrow'
   simp only [AS.dataV, hs] at h6
   exact h6.toC0 (by intro fr z es he; cases he)
 | fm kc es => exact DRel.keep hc (.refl _ w) (fun b _ h => hok b h)
 | fn f caps => exact hc.elim
 | any => exact hc
end
def a6B : Value -> Bool
 | .agg cs => cs.toList.all Value.oneCell'
 | .tuple _ => false
 | _ => true
def opd : Operand -> Option Opd
 | .tmp t => some (.t t)
 | .const v => if a6B v then some (.v v) else none
 | .func f => some (.f f)
 | .global _ => none
def K7 : TypeDesc -> Bool
 | .struct _ | .array _ _ => true
 | _ => false
def d0M (P : Program) (t : TypeId) : Option (Bool × Nat) :=
 match P.underlying t, P.info? t with
 | some d, some i => some (K7 d, i.size)
 | _, _ => none
def L3 (P : Program) (t : TypeId) (k : Nat) : Option Field :=
 match P.underlying t with
 | some (.struct fs) => fs[k]?
 | _ => none
def u3 (P : Program) (t : TypeId) : Option (TypeId × TypeInfo) :=
 match P.underlying t with
 | some (.slice e) => (P.info? e).map fun i => (e, i)
 | _ => none
def T4 (P : Program) (t : TypeId) : Option (List Value) :=
 match P.info? t with
 | some i => match i.zero with
  | some z => if z.cells.toList.all Value.oneCell' then some z.cells.toList else none
  | none => none
 | none => none
def a4m (P : Program) (t : TypeId) : Option (List (Nat × Nat)) :=
 match P.underlying t with
 | some (.struct fs) => fs.toList.mapM (fun f => (P.info? f.type).map fun i => (f.offset, i.size))
 | _ => none
def c6o (P : Program) : Opd -> Bool
 | .f n => match ((P.funcs[n]?).bind (fun fn => fn.params[0]?)).bind P.underlying with
  | some (.pointer _) => true
  | _ => false
 | _ => false
def a5S (P : Program) (sh : TypeId -> Option (List KTy)) : Nat -> List Field -> Option (List KTy)
 | _, [] => some []
 | off, f :: fs => match sh f.type, P.info? f.type, a5S P sh (off + P.cellsOf f.type) fs with
  | some ks, some i, some ls => if (f.name == "_") = false ∧ f.offset = off ∧ i.size = ks.length then some (ks ++ ls) else none
  | _, _, _ => none
def b0X (P : Program) : Nat -> TypeId -> Option (List KTy)
 | 0, _ => none
 | m + 1, t => match P.underlying t with
  | some .bool => some [.b]
  | some (.int k) => some [.i k]
  | some .string => some [.s]
  | some (.struct fs) => if P.stoodInHeld t then none else a5S P (b0X P m) 0 fs.toList
  | _ => none
def eqIns (P : Program) (op : BinOp) (t : TypeId) (y : Opd) : Option (Bool × Bool × List KTy) :=
 match op with
 | .eql => (eqTy P t y).map fun r => (false, r)
 | .neq => (eqTy P t y).map fun r => (true, r)
 | _ => none
where eqTy (P : Program) (t : TypeId) (y : Opd) : Option (Bool × List KTy) :=
 match P.underlying t, y with
 | some .bool, _ => some (false, [.b])
 | some (.struct _), _ => if P.eqGuardType P.depth t then none else (b0X P 8 t).map fun ks => (true, ks)
 | some (.slice _), .v (.slice none _ _) => some (false, [.ns])
 | some (.pointer _), .v (.pointer none) => some (false, [.np])
 | some (.interface _), .v .nilIface => some (false, [.ni])
 | _, _ => none
def a2K (P : Program) (kt : TypeId) : Option Nat :=
 match P.underlying kt with
 | some .string => some 0
 | some (.int q) => some (a2n q)
 | _ => none
def O3 (P : Program) (t : TypeId) : Option (Nat × Value) :=
 match P.info? t with
 | some i => match i.zero with
  | some (.agg cs) => if cs.toList.all Value.oneCell' then some (16, .iface 0 (.agg cs)) else none
  | some v => if v.oneCell' then some (0, v) else none
  | none => none
 | none => none
def P8 (P : Program) (t : TypeId) : Nat := match O3 P t with | some p => p.1 | none => 0
def a1Y (P : Program) (t : TypeId) : Option (Nat × TypeId) :=
 match P.underlying t with
 | some (.map kt et) => (a2K P kt).map fun c => (c + P8 P et, et)
 | _ => none
def d6H (i : TypeInfo) : Bool := match i.zero with
 | some (.int .u8 n) => decide (n = 0 ∧ i.size = 1 ∧ i.bytes = 1)
 | _ => false
def c9N (P : Program) (t : TypeId) : Bool := match P.underlying t with | some .string => true | _ => false
def a7V (P : Program) (e t' : TypeId) (i : TypeInfo) (x : Opd) : Opd -> Option Ins
 | .t n => if d6H i = true ∧ c9N P t' = true then some (.append e 1 1 x (.b n)) else none
 | _ => none
def a4D (x : Opd) (lo hi : Option Operand) : Option Ins :=
 match lo, hi with
 | none, none => some (.ssub x none none)
 | some l, none => (opd l).map fun l => .ssub x (some l) none
 | none, some h => (opd h).map fun h => .ssub x none (some h)
 | some l, some h => match opd l, opd h with
  | some l, some h => some (.ssub x (some l) (some h))
  | _, _ => none
def a8x (P : Program) (t : TypeId) (x i : Opd) : Option Ins :=
 match P.underlying t with
 | some (.array n e) => (P.info? e).map fun inf => .aadr n inf.size x i
 | _ => none
def q8 (P : Program) (o : Oper) : Option Ins :=
 match o.op with
 | .move x => (opd x).map .mv
 | .assign x => (opd x).map .mv
 | .pick c a b => match opd c, opd a, opd b with
  | some c, some a, some b => some (.pick c a b)
  | _, _, _ => none
 | .alloc t => (T4 P t).map .alloc
 | .box _ x => (opd x).map .box
 | .build t parts => match T4 P t, a4m P t, parts.toList.mapM (fun p => match L3 P t p.1, opd p.2 with
   | some f, some x => (P.info? f.type).map fun i => (f.offset, i.size, x)
   | _, _ => none) with
  | some z, some _, some ps => some (.build z ps)
  | _, _, _ => none
 | .buildSlice t len parts => match u3 P t, parts.toList.mapM (fun p => opd p.2) with
  | some (_, i), some ps => if parts.toList.map (·.1) = List.range len ∧ 0 < i.size ∧ len * i.size <= 16777216 ∧ 0 < len ∧ (i.zero.map (·.cells.size)) = some i.size then some (.bslice i.size len ps) else none
  | _, _ => none
 | .load t x => match d0M P t, opd x with
  | some (ag, n), some x => some (.load ag n x)
  | _, _ => none
 | .store t x v => match d0M P t, opd x, opd v with
  | some (_, n), some x, some v => some (.store n x v)
  | _, _, _ => none
 | .nilCheck x => (opd x).map .nilchk
 | .binOp op t x y _ => match opd x, opd y with
  | some x, some y => match eqIns P op t y with
   | some (neg, agg, ks) => some (.eqs neg agg ks x y)
   | none => some (.bin op x y)
  | _, _ => none
 | .unOp op _ x => (opd x).map (.un op)
 | .convert src dst x => match P.underlying src, P.underlying dst, opd x with
  | some _, some (.int k), some x => some (.conv k x)
  | _, _, _ => none
 | .makeFunc (.func f) first caps => match caps.toList.mapM opd with
  | some cs => if first.size = 0 then some (.mkfn f cs) else none
  | none => none
 | .slice t x lo hi none => match u3 P t, opd x with
  | some (_, i), some x => match lo, hi with
   | none, none => some (.slc i.size x none none)
   | some l, none => (opd l).map fun l => .slc i.size x (some l) none
   | none, some h => (opd h).map fun h => .slc i.size x none (some h)
   | some l, some h => match opd l, opd h with
    | some l, some h => some (.slc i.size x (some l) (some h))
    | _, _ => none
  | none, some x => match P.underlying t with
   | some .string => a4D x lo hi
   | _ => none
  | _, _ => none
 | .fieldAddr t x k => match L3 P t k, opd x with
  | some f, some x => match P.info? f.type with
   | some i => if i.size = 0 then none else some (.fadr f.offset x)
   | none => none
  | _, _ => none
 | .field _ _ _ => none
 | .indexAddr t x i => match u3 P t, opd x, opd i with
  | some (_, inf), some x, some i => some (.iadr inf.size x i)
  | none, some x, some i => a8x P t x i
  | _, _, _ => none
 | .index t x i => match P.underlying t, opd x, opd i with
  | some .string, some x, some i => some (.idx x i)
  | _, _, _ => none
 | .extract x i => (opd x).map fun x => .extr x i
 | .call { callee := .builtin .len, args, argTypes } => match args.toList, (argTypes[0]?).bind P.underlying with
  | [x], some (.slice _) => (opd x).map .len
  | [x], some .string => (opd x).map .slen
  | _, _ => none
 | .call { callee := .builtin .max, args, .. } => match args.toList with
  | [x, y] => match opd x, opd y with
   | some x, some y => some (.mnx true x y)
   | _, _ => none
  | _ => none
 | .call { callee := .builtin .min, args, .. } => match args.toList with
  | [x, y] => match opd x, opd y with
   | some x, some y => some (.mnx false x y)
   | _, _ => none
  | _ => none
 | .call { callee := .builtin .append, args, argTypes } => match args.toList, argTypes.toList with
  | [x, y], [t, t'] => match u3 P t, opd x, opd y with
   | some (e, i), some x, some y => if t = t' ∧ 0 < i.size ∧ (i.zero.map (·.cells.size)) = some i.size then some (.append e i.size i.bytes x y) else none
   | _, _, _ => none
  | _, _ => none
 | .call { callee := .value f, args, .. } => match opd f, args.toList.mapM opd with
  | some f, some as => some (if c6o P f then .callx f as else .call f as)
  | _, _ => none
 | .call { callee := .builtin .clear, args, argTypes } => match args.toList, argTypes.toList with
  | [x], [t] => match u3 P t, opd x with
   | some (e, i), some x => match T4 P e with
    | some z => if z.length = i.size then some (.clr e i.size z x) else none
    | none => none
   | _, _ => none
  | _, _ => none
 | .makeSlice t l c => match u3 P t, opd l, opd c with
  | some (e, i), some l, some c => match T4 P e with
   | some z => if z.length = i.size then some (.mkr e i.size i.bytes z l c) else none
   | none => none
  | _, _, _ => none
 | .makeMap t none => (a1Y P t).map fun p => .mkm p.1
 | .makeMap t (some (.const (.int _ _))) => (a1Y P t).map fun p => .mkm p.1
 | .mapUpdate t m k v => match a1Y P t, opd m, opd k, opd v with
  | some p, some m, some k, some v => some (.mup p.1 m k v)
  | _, _, _, _ => none
 | .insert t m k v => match a1Y P t, opd m, opd k, opd v with
  | some p, some m, some k, some v => some (.mup p.1 m k v)
  | _, _, _, _ => none
 | .lookup t m k ok => match a1Y P t, opd m, opd k with
  | some p, some m, some k => match O3 P p.2 with
   | some z => some (.mlk p.1 z.2 ok (match u3 P p.2 with | some (_, i) => i.size | none => 0) m k)
   | none => none
  | _, _, _ => none
 | .call { callee := .builtin .delete, args, argTypes } => match args.toList, argTypes.toList with
  | [m, k], [t, _] => match a1Y P t, opd m, opd k with
   | some p, some m, some k => some (.mdl p.1 m k)
   | _, _, _ => none
  | _, _ => none
 | _ => none
theorem f9 {P : Program} {o : Oper} {a : Act} {w w' : World} {K : Act -> World -> Prop} {Q : Exit -> Act -> World -> Prop} {v : Value} (h : (execOp a.eval o).run P w = .ok (.value v) w') (hK : K (a.put o.dst v) w') : o.wp P a w K Q := by
 unfold Oper.wp; rw [h]; exact hK
theorem a4b {P : Program} {o : Oper} {a : Act} {w w' : World} {K : Act -> World -> Prop} {Q : Exit -> Act -> World -> Prop} (h : (execOp a.eval o).run P w = .ok .skip w') (hK : K (a.put o.dst undef) w') : o.wp P a w K Q := by
 unfold Oper.wp; rw [h]; exact hK
section
variable {P : Program} {w0 w w' : World} {okA : Nat -> Prop} {ext : Ext} {N : Nat} {s : AS} {a : Act} {E : Env} {o : Oper} {K : Act -> World -> Prop} {Q : Exit -> Act -> World -> Prop}
theorem c2B {v : Value} (h : a6B v = true) : VRel w (okE w0 okA E) w0.heap.size E (ofV v) v := by
 cases v with
 | agg cs =>
  have h1 : CsRel w (okE w0 okA E) w0.heap.size E (cs.toList.map .g) cs.toList := CsRel.gs _ (fun u hu => (List.all_eq_true.1 h) u hu)
  simpa [ofV] using VRel.ag h1
 | tuple vs => simp [a6B] at h
 | _ => exact .one ⟨rfl, rfl⟩
theorem l5 (h : St w0 okA ext N s a w E) {x : Operand} {y : Opd} (hx : opd x = some y) : VRel w (okE w0 okA E) w0.heap.size E (s.ev y) (a.eval x) := by
 cases x with
 | tmp t => simp only [opd, Option.some.injEq] at hx; subst hx; exact h.tm t
 | const v =>
  simp only [opd] at hx
  split at hx
  ·rename_i hv; simp only [Option.some.injEq] at hx; subst hx; exact c2B hv
  ·cases hx
 | func f => simp only [opd, Option.some.injEq] at hx; subst hx; exact .one ⟨[], rfl, rfl, fun i c u h => by simp at h⟩
 | global g => simp [opd] at hx
def q6 : SRes -> (AS -> Prop) -> Prop
 | .ok s, T => T s
 | .need p s, T => p ∧ T s
 | .bad, _ => False
def n7 (w0 : World) (okA : Nat -> Prop) (ext : Ext) (N : Nat) (K : Act -> World -> Prop) (s' : AS) : Prop := ∀ a' w' E', St w0 okA ext N s' a' w' E' -> K a' w'
theorem q9 {x : Val} {v u : Value} {ok : Nat -> Prop} {base : Nat} (h : VRel w ok base E x v) (hx : x = .one (.g u)) : v = u := by
 subst hx; cases h with | one h1 => exact h1.1
theorem u9 {x : Val} {v : Value} {c : Cel} {ok : Nat -> Prop} {base : Nat} (h : VRel w ok base E x v) (hx : x = .one c) : CRel w ok base E c v := by
 subst hx; cases h with | one h1 => exact h1
theorem d5r {x : Val} {v : Value} {cs : List Cel} {ok : Nat -> Prop} {base : Nat} (h : VRel w ok base E x v) (hx : x = .ag cs) : ∃ us, v = .agg us.toArray ∧ CsRel w ok base E cs us := by
 subst hx; cases h with | ag h1 => exact ⟨_, rfl, h1⟩
theorem d6k {x : Val} {v : Value} {vs : List Val} {ok : Nat -> Prop} {base : Nat} (h : VRel w ok base E x v) (hx : x = .tu vs) : ∃ us : List Value, v = .tuple us.toArray ∧ vs.length = us.length ∧ ∀ (i : Nat) (x : Val) (u : Value), vs[i]? = some x -> us[i]? = some u -> VRel w ok base E x u := by
 subst hx; cases h with | tu h1 h2 => exact ⟨_, rfl, h1, h2⟩
theorem d5x (h : St w0 okA ext N s a w E) {x : Operand} {y : Opd} (hx : opd x = some y) (ho : o.op = .move x ∨ o.op = .assign x) (hd : ∀ k, o.dst = some k -> k < N)
  (hK : q6 (c9 o.dst (.mv y) s) (n7 w0 okA ext N K)) : o.wp P a w K Q := by
 refine f9 (v := a.eval x) (w' := w) ?_ (hK _ _ E (h.put (l5 h hx) hd))
 rcases ho with ho | ho <;> simp [execOp, ho]
theorem a3g {t : TypeId} {z : List Value} (hz : T4 P t = some z) : ∃ i v, P.info? t = some i ∧ i.zero = some v ∧ v.cells.toList = z ∧ ∀ u ∈ z, u.oneCell' = true := by
 unfold T4 at hz
 all_goals grind
theorem c4x (h : St w0 okA ext N s a w E) {t : TypeId} {z : List Value} (hz : T4 P t = some z) (ho : o.op = .alloc t) (hd : ∀ k, o.dst = some k -> k < N)
  (hK : q6 (c9 o.dst (.alloc z) s) (n7 w0 okA ext N K)) : o.wp P a w K Q := by
 obtain ⟨i, v, hi, hv, rfl, h1⟩ := a3g hz
 cases hdst : o.dst with
 | none => rw [hdst] at hK; exact hK.elim
 | some k =>
  rw [hdst] at hK
  simp only [c9] at hK
  split at hK
  ·rename_i hbx
   split at hK
   ·exact hK.elim
   rename_i hk0
   have hs := h.box (ty := t) hbx hk0 (hd k hdst) (CsRel.gs (w := w) (ok := okE w0 okA E) (base := w0.heap.size) (E := E) v.cells.toList h1)
   refine f9 (v := .pointer (some ⟨w.heap.size, 0, none⟩)) ?_ (hK _ _ _ (by rw [hdst]; exact hs))
   simp [execOp, ho, Instr.alloc, zeroValue, typeInfo, hi, hv, newVar, newRow, newObj, Sem.run]
  ·exact hK.elim
theorem d5j (h : St w0 okA ext N s a w E) {t : TypeId} {x : Operand} {y : Opd} (hx : opd x = some y) (ho : o.op = .box t x) (hd : ∀ k, o.dst = some k -> k < N)
  (hK : q6 (c9 o.dst (.box y) s) (n7 w0 okA ext N K)) : o.wp P a w K Q := by
 cases hdst : o.dst with
 | none => rw [hdst] at hK; exact hK.elim
 | some k =>
  rw [hdst] at hK
  simp only [c9] at hK
  split at hK
  ·rename_i k' cs hk' hcs
   injection hk' with hk'; subst hk'
   split at hK
   ·rename_i hbx
    split at hK
    ·exact hK.elim
    rename_i hk0
    have hs := h.box (ty := t) hbx hk0 (hd k hdst) ((l5 h hx).cells hcs)
    refine f9 (v := .pointer (some ⟨w.heap.size, 0, none⟩)) ?_ (hK _ _ _ (by rw [hdst]; exact hs))
    simp [execOp, ho, Instr.box, newVar, newRow, newObj, Sem.run]
   ·exact hK.elim
  ·exact hK.elim
theorem d6p (h : St w0 okA ext N s a w E) {op : UnOp} {t : TypeId} {x : Operand} {y : Opd} (hx : opd x = some y) (ho : o.op = .unOp op t x) (hd : ∀ k, o.dst = some k -> k < N)
  (hK : q6 (c9 o.dst (.un op y) s) (n7 w0 okA ext N K)) : o.wp P a w K Q := by
 simp only [c9] at hK
 have hr := l5 h hx
 split at hK
 ·rename_i b hv
  refine f9 (v := .bool (!b)) (w' := w) ?_ (hK _ _ E (h.put (.one ⟨rfl, rfl⟩) hd))
  simp [execOp, ho, q9 hr hv, Op.unary]
 ·rename_i k n hv
  refine f9 (v := .int k (k.wrap (0 - n))) (w' := w) ?_ (hK _ _ E (h.put (.one ⟨rfl, rfl⟩) hd))
  simp [execOp, ho, q9 hr hv, Op.unary, Op.intArith]
 ·exact hK.elim
theorem c8Y (h : St w0 okA ext N s a w E) {src dst : TypeId} {k : IntKind} {d : TypeDesc} {x : Operand} {y : Opd} (hx : opd x = some y) (hs : P.underlying src = some d) (hdst : P.underlying dst = some (.int k))
  (ho : o.op = .convert src dst x) (hd : ∀ k, o.dst = some k -> k < N) (hK : q6 (c9 o.dst (.conv k y) s) (n7 w0 okA ext N K)) : o.wp P a w K Q := by
 simp only [c9] at hK
 have hr := l5 h hx
 split at hK
 ·rename_i j n hv
  refine f9 (v := .int k (k.wrap n)) (w' := w) ?_ (hK _ _ E (h.put (.one ⟨rfl, rfl⟩) hd))
  simp [execOp, ho, q9 hr hv, convert, run_underlying hs, run_underlying hdst, Conv.intToInt]
 ·exact hK.elim
theorem d0h (h : St w0 okA ext N s a w E) {x : Operand} {y : Opd} {i : Nat} (hx : opd x = some y) (ho : o.op = .extract x i) (hd : ∀ k, o.dst = some k -> k < N)
  (hK : q6 (c9 o.dst (.extr y i) s) (n7 w0 okA ext N K)) : o.wp P a w K Q := by
 simp only [c9] at hK
 have hr := l5 h hx
 split at hK
 ·rename_i vs hv
  split at hK
  ·rename_i v hvi
   obtain ⟨us, hu, hl, hc⟩ := d6k hr hv
   have hlt : i < us.length := by have := (List.getElem?_eq_some_iff.1 hvi).1; omega
   refine f9 (v := us[i]) (w' := w) ?_ (hK _ _ E (h.put (hc i v _ hvi (List.getElem?_eq_getElem hlt)) hd))
   simp [execOp, ho, hu, Instr.extract, hlt]
  ·exact hK.elim
 ·exact hK.elim
theorem d1W (h : St w0 okA ext N s a w E) {f : FuncId} {first caps : Array Operand} {cs : List Opd} (hx : caps.toList.mapM opd = some cs) (hf : first.size = 0) (ho : o.op = .makeFunc (.func f) first caps) (hd : ∀ k, o.dst = some k -> k < N)
  (hK : q6 (c9 o.dst (.mkfn f cs) s) (n7 w0 okA ext N K)) : o.wp P a w K Q := by
 simp only [c9] at hK
 split at hK
 ·rename_i ds hds
  have hlist : ∀ (xs : List Operand) (cs : List Opd) (ds : List Cel), xs.mapM opd = some cs -> cs.mapM (fun p => match s.ev p with | .one (.bx k off) => some (Cel.bx k off) | .one (.g v) => some (Cel.g v) | _ => none) = some ds ->
    ds.length = (xs.map a.eval).length ∧ ∀ (i : Nat) (c : Cel) (u : Value), ds[i]? = some c -> (xs.map a.eval)[i]? = some u -> CRel0 w (okE w0 okA E) w0.heap.size E c u := by
   intro xs
   induction xs with
   | nil => intro cs ds h1 h2; simp at h1; subst h1; simp at h2; subst h2; exact ⟨rfl, fun i c u h => by simp at h⟩
   | cons x xs ih =>
    intro cs ds h1 h2
    simp only [List.mapM_cons, Option.bind_eq_bind, Option.bind_eq_some_iff, Option.pure_def, Option.some.injEq] at h1
    obtain ⟨y, hy, ys, hys, rfl⟩ := h1
    simp only [List.mapM_cons, Option.bind_eq_bind, Option.bind_eq_some_iff, Option.pure_def, Option.some.injEq] at h2
    obtain ⟨e, he, es, hes, rfl⟩ := h2
    obtain ⟨hl, hr⟩ := ih ys es hys hes
    refine ⟨by simp at hl ⊢; exact hl, fun i c u h3 h4 => ?_⟩
    match i with
    | 0 =>
     simp at h3 h4; subst h3; subst h4
     have hev := l5 h hy
     split at he
     ·rename_i k off hv; simp only [Option.some.injEq] at he; subst he; exact u9 hev hv
     ·rename_i v hv; simp only [Option.some.injEq] at he; subst he; exact u9 hev hv
     ·cases he
    | i + 1 => simp at h3 h4; exact hr i c u h3 (by simpa using h4)
  obtain ⟨h1, h2⟩ := hlist _ _ _ hx hds
  refine f9 (v := .func (.func f) #[] (caps.toList.map a.eval).toArray) (w' := w) ?_ (hK _ _ E (h.put (.one ⟨_, rfl, h1, h2⟩) hd))
  have : first.map a.eval = #[] := by rw [<- Array.size_eq_zero_iff]; simpa using hf
  have h9 : caps.map a.eval = (caps.toList.map a.eval).toArray := by apply Array.ext'; simp
  simp only [execOp, ho, Instr.makeFunc, this, h9]; simp
 ·exact hK.elim
theorem d4a (h : St w0 okA ext N s a w E) {op : BinOp} {t t' : TypeId} {x x' : Operand} {y y' : Opd} (hx : opd x = some y) (hx' : opd x' = some y') (ho : o.op = .binOp op t x x' t') (hd : ∀ k, o.dst = some k -> k < N)
  (hK : q6 (c9 o.dst (.bin op y y') s) (n7 w0 okA ext N K)) : o.wp P a w K Q := by
 simp only [c9, L0] at hK
 have hr := l5 h hx
 have hr' := l5 h hx'
 split at hK
 ·rename_i k m k' m' hv hv'
  have e1 := q9 hr hv
  have e2 := q9 hr' hv'
  cases op <;> simp only [] at hK <;> first
   | exact hK.elim
   | (split at hK; (next hk => subst hk; first | (refine f9 (w' := w) ?_ (hK _ _ E (h.put (.one ⟨rfl, rfl⟩) hd)); simp [execOp, ho, e1, e2, eqGuard, binOp, Op.intArith, Op.intCmp, intBits_and, intBits_or, intBits_xor]; done) | (obtain ⟨hne, hK⟩ := hK; refine f9 (w' := w) ?_ (hK _ _ E (h.put (.one ⟨rfl, rfl⟩) hd)); simp [execOp, ho, e1, e2, eqGuard, binOp, Op.intDiv, hne]; done)); exact hK.elim)
   | (obtain ⟨hne, hK⟩ := hK; refine f9 (w' := w) ?_ (hK _ _ E (h.put (.one ⟨rfl, rfl⟩) hd)); simp [execOp, ho, e1, e2, eqGuard, binOp, Op.shift, Int.not_lt.2 hne]; done)
 ·rename_i m m' hv hv'
  have e1 := q9 hr hv
  have e2 := q9 hr' hv'
  cases op <;> simp only [] at hK <;> first
   | exact hK.elim
   | (refine f9 (w' := w) ?_ (hK _ _ E (h.put (.one ⟨rfl, rfl⟩) hd)); simp [execOp, ho, e1, e2, eqGuard, binOp, Op.stringOp]; done)
   | (obtain ⟨hne, hK⟩ := hK; refine f9 (w' := w) ?_ (hK _ _ E (h.put (.one ⟨rfl, rfl⟩) hd)); have h9 : ¬ (((m.size + m'.size : Nat) : Int) > IntKind.i64.max) := (by show ¬ _ > (9223372036854775807 : Int); omega); simp only [execOp, ho, e1, e2, eqGuard, binOp, Op.stringOp, if_neg h9]; first | done | rfl | simp)
 ·exact hK.elim
theorem b6I (h : St w0 okA ext N s a w E) {x : Operand} {y : Opd} (hx : opd x = some y) (ho : o.op = .nilCheck x) (hd : ∀ k, o.dst = some k -> k < N)
  (hK : q6 (c9 o.dst (.nilchk y) s) (n7 w0 okA ext N K)) : o.wp P a w K Q := by
 simp only [c9] at hK
 have hr := l5 h hx
 split at hK
 ·rename_i k off hv
  obtain ⟨g, hg, hp⟩ := u9 hr hv
  refine f9 (v := a.eval x) (w' := w) ?_ (hK _ _ E (h.put (hv ▸ hr) hd))
  simp [execOp, ho, hp]
 ·rename_i cs hv
  obtain ⟨b, off, us, hp, _⟩ := u9 hr hv
  refine f9 (v := a.eval x) (w' := w) ?_ (hK _ _ E (h.put (hv ▸ hr) hd))
  simp [execOp, ho, hp]
 ·rename_i k ver i off hv
  split at hK
  ·rename_i r hs
   split at hK
   ·rename_i hver
    obtain ⟨_, ver', z, u, hm, _, hu, hzp⟩ := u9 hr hv
    obtain ⟨_, _, u', _, hm', _⟩ := h.rwS hs (h.zpos hs hm hzp)
    rw [hm] at hm'
    simp only [Option.some.injEq, Prod.mk.injEq] at hm'
    obtain ⟨rfl, rfl, rfl⟩ := hm'
    obtain ⟨g, n, c, _, hp⟩ := hu hver
    refine f9 (v := a.eval x) (w' := w) ?_ (hK _ _ E (h.put (hv ▸ hr) hd))
    simp [execOp, ho, hp]
   ·exact hK.elim
  ·exact hK.elim
 ·exact hK.elim
theorem d5f (h : St w0 okA ext N s a w E) {x : Operand} {y : Opd} {ts : Array TypeId} {t e : TypeId} (hx : opd x = some y) (hts : ts[0]? = some t) (hu : P.underlying t = some (.slice e))
  (ho : o.op = .call { callee := .builtin .len, args := #[x], argTypes := ts }) (hd : ∀ k, o.dst = some k -> k < N) (hK : q6 (c9 o.dst (.len y) s) (n7 w0 okA ext N K)) : o.wp P a w K Q := by
 simp only [c9] at hK
 have hr := l5 h hx
 have hsl : ∀ (b : Option Addr) (n c : Nat), a.eval x = .slice b n c -> (execOp a.eval o).run P w = .ok (.value (.int .i64 n)) w := fun b n c hv => by
  simp [execOp, ho, resolve, invoke, builtin, Builtin.len_, hts, hv, run_underlying hu, goInt]
 split at hK
 ·rename_i fr z es hv
  have h1 : DRel w (if fr then (fun b => w0.heap.size <= b ∧ okE w0 okA E b) else okE w0 okA E) (.sl fr z es) (a.eval x) := u9 hr hv
  have h2 : ∃ b c, a.eval x = .slice b es.length c := by
   generalize a.eval x = v at h1
   cases h1 with
   | nil => exact ⟨_, _, rfl⟩
   | sl us hn => subst hn; exact ⟨_, _, rfl⟩
  obtain ⟨b, c, h2⟩ := h2
  exact f9 (hsl b _ c h2) (hK _ _ E (h.put (.one ⟨rfl, rfl⟩) hd))
 ·rename_i b n c hv
  exact f9 (hsl b n c (q9 hr hv)) (hK _ _ E (h.put (.one ⟨rfl, rfl⟩) hd))
 ·rename_i k ver hv
  split at hK
  ·rename_i r hs
   split at hK
   ·rename_i hver
    obtain ⟨_, ver', z, u, hm, _, hu, hzp⟩ := u9 hr hv
    obtain ⟨_, _, u', _, hm', hown, _⟩ := h.rwS hs (h.zpos hs hm hzp)
    rw [hm] at hm'
    simp only [Option.some.injEq, Prod.mk.injEq] at hm'
    obtain ⟨rfl, rfl, rfl⟩ := hm'
    have h2 : ∃ b c, a.eval x = .slice b r.es.length c := by
     rw [hu hver]
     rcases hown.2 with ⟨rfl, h0⟩ | ⟨g, cap, cur, rfl, _⟩
     ·grind
     ·exact ⟨_, _, rfl⟩
    obtain ⟨b, c, h2⟩ := h2
    exact f9 (hsl b _ c h2) (hK _ _ E (h.put (.one ⟨rfl, rfl⟩) hd))
   ·exact hK.elim
  ·exact hK.elim
 ·rename_i k ver lo hv
  split at hK
  ·rename_i r hs
   split at hK
   ·rename_i hver
    obtain ⟨_, ver', z, u, hm, _, hu, hzp⟩ := u9 hr hv
    obtain ⟨_, _, u', _, hm', hown, _⟩ := h.rwS hs (h.zpos hs hm hzp)
    rw [hm] at hm'
    simp only [Option.some.injEq, Prod.mk.injEq] at hm'
    obtain ⟨rfl, rfl, rfl⟩ := hm'
    obtain ⟨g, m, c, A, hu1, hlo, hv1, hA⟩ := hu hver
    have hm3 : m = r.es.length := by
     rcases hown.2 with ⟨h8, h9⟩ | ⟨g', cap, cur, hu2, _⟩
     ·rw [hu1] at h8; cases h8
     ·grind
    have h3 : ((m - lo : Nat) : Int) = (r.es.length : Int) - lo := by omega
    have h4 := hsl _ _ _ hv1
    rw [h3] at h4
    exact f9 h4 (hK _ _ E (h.put (.one ⟨rfl, rfl⟩) hd))
   ·exact hK.elim
  ·exact hK.elim
 ·exact hK.elim
theorem c9i (h : St w0 okA ext N s a w E) {x : Operand} {y : Opd} {ts : Array TypeId} {t : TypeId} (hx : opd x = some y) (hts : ts[0]? = some t) (hu : P.underlying t = some .string)
  (ho : o.op = .call { callee := .builtin .len, args := #[x], argTypes := ts }) (hd : ∀ k, o.dst = some k -> k < N) (hK : q6 (c9 o.dst (.slen y) s) (n7 w0 okA ext N K)) : o.wp P a w K Q := by
 simp only [c9] at hK
 have hr := l5 h hx
 split at hK
 ·rename_i b hv
  refine f9 (v := .int .i64 b.size) (w' := w) ?_ (hK _ _ E (h.put (.one ⟨rfl, rfl⟩) hd))
  simp [execOp, ho, resolve, invoke, builtin, Builtin.len_, hts, q9 hr hv, run_underlying hu, goInt]
 ·exact hK.elim
theorem d1C (h : St w0 okA ext N s a w E) {mx : Bool} {x x' : Operand} {y y' : Opd} {ts : Array TypeId} (hx : opd x = some y) (hx' : opd x' = some y')
  (ho : o.op = .call { callee := .builtin (if mx then .max else .min), args := #[x, x'], argTypes := ts }) (hd : ∀ k, o.dst = some k -> k < N) (hK : q6 (c9 o.dst (.mnx mx y y') s) (n7 w0 okA ext N K)) : o.wp P a w K Q := by
 simp only [c9] at hK
 have hr := l5 h hx
 have hr' := l5 h hx'
 split at hK
 ·rename_i k m k' m' hv hv'
  have e1 := q9 hr hv
  have e2 := q9 hr' hv'
  refine f9 (w' := w) ?_ (hK _ _ E (h.put (.one ⟨rfl, rfl⟩) hd))
  cases mx <;> simp [execOp, ho, resolve, invoke, builtin, Builtin.max_, Builtin.min_, Builtin.max2, Builtin.min2, e1, e2]
 ·exact hK.elim
theorem d4M (h : St w0 okA ext N s a w E) {t : TypeId} {x x' : Operand} {y y' : Opd} (hx : opd x = some y) (hx' : opd x' = some y') (hu : P.underlying t = some .string)
  (ho : o.op = .index t x x') (hd : ∀ k, o.dst = some k -> k < N) (hK : q6 (c9 o.dst (.idx y y') s) (n7 w0 okA ext N K)) : o.wp P a w K Q := by
 simp only [c9] at hK
 have hr := l5 h hx
 have hr' := l5 h hx'
 split at hK
 ·rename_i b k n hv hv'
  have e1 := q9 hr hv
  have e2 := q9 hr' hv'
  obtain ⟨⟨h0, h1⟩, hK⟩ := hK
  have hlt : n.toNat < b.size := by omega
  refine f9 (w' := w) ?_ (hK _ _ E (h.put (.one ⟨rfl, rfl⟩) hd))
  have h2 : b.data.toList.getD n.toNat 0 = b[n.toNat] := by
   rw [List.getD_eq_getElem?_getD, List.getElem?_eq_getElem (by simpa using hlt)]; rfl
  have h3 : b[n.toNat]? = some b[n.toNat] := by simp [hlt]
  rw [h2]
  simp [execOp, ho, Instr.index, e1, e2, asIntOf, run_underlying hu, h0, hlt]
 ·exact hK.elim
theorem c8H (h : St w0 okA ext N s a w E) {t : TypeId} {k : Nat} {f : Field} {i : TypeInfo} {x : Operand} {y : Opd} (hx : opd x = some y) (hf : L3 P t k = some f) (hi : P.info? f.type = some i) (hz : i.size ≠ 0)
  (ho : o.op = .fieldAddr t x k) (hd : ∀ k, o.dst = some k -> k < N) (hK : q6 (c9 o.dst (.fadr f.offset y) s) (n7 w0 okA ext N K)) : o.wp P a w K Q := by
 simp only [c9] at hK
 have hr := l5 h hx
 have hrun : ∀ b off, a.eval x = .pointer (some ⟨b, off, none⟩) -> (execOp a.eval o).run P w = .ok (.value (.pointer (some ⟨b, off + f.offset, none⟩))) w := fun b off hv => by
  unfold L3 at hf
  split at hf
  ·rename_i fs hu
   simp [execOp, ho, Instr.fieldAt, run_underlying hu, hf, hv, Instr.sureAddr, fieldPlace, sizeOf, typeInfo, hi, hz, u7]
  ·cases hf
 split at hK
 ·rename_i k' off hv
  obtain ⟨g, hg, hp⟩ := u9 hr hv
  exact f9 (hrun _ _ hp) (hK _ _ E (h.put (.one ⟨g, hg, rfl⟩) hd))
 ·rename_i cs hv
  obtain ⟨b, off, us, hp, ho', hlt, hc⟩ := u9 hr hv
  refine f9 (hrun _ _ hp) (hK _ _ E (h.put (.one ⟨b, off + f.offset, fun j => us (f.offset + j), rfl, ho', hlt, fun j x hx => ?_⟩) hd))
  grind
 ·rename_i k' ver i' off hv
  split at hK
  ·rename_i r hs
   split at hK
   ·rename_i hver
    obtain ⟨h1, ver', z, u, hm, hle, hu, hzp⟩ := u9 hr hv
    obtain ⟨_, _, u', _, hm', hown, _⟩ := h.rwS hs (h.zpos hs hm hzp)
    have hm2 := hm
    rw [hm] at hm'
    simp only [Option.some.injEq, Prod.mk.injEq] at hm'
    obtain ⟨rfl, rfl, rfl⟩ := hm'
    obtain ⟨g, n, c, hu1, hp⟩ := hu hver
    exact f9 (hrun _ _ hp) (hK _ _ E (h.put (.one ⟨rfl, r.ver, r.z, u, hm2, hle, fun _ => ⟨g, n, c, hu1, by rw [Nat.add_assoc]⟩, hzp⟩) hd))
   ·exact hK.elim
  ·exact hK.elim
 ·exact hK.elim
theorem c7Z (h : St w0 okA ext N s a w E) {t e : TypeId} {i : TypeInfo} {x x' : Operand} {y y' : Opd} (hx : opd x = some y) (hx' : opd x' = some y') (hu : P.underlying t = some (.slice e)) (hi : P.info? e = some i)
  (ho : o.op = .indexAddr t x x') (hd : ∀ k, o.dst = some k -> k < N) (hK : q6 (c9 o.dst (.iadr i.size y y') s) (n7 w0 okA ext N K)) : o.wp P a w K Q := by
 simp only [c9] at hK
 have hr := l5 h hx
 have hr' := l5 h hx'
 have hrun : ∀ (b off n c : Nat) (k : IntKind) (m : Int), a.eval x = .slice (some ⟨b, off, none⟩) n c -> a.eval x' = .int k m -> 0 <= m -> m < n -> (execOp a.eval o).run P w = .ok (.value (.pointer (some ⟨b, off + m.toNat * i.size, none⟩))) w := fun b off n c k m hv hv' h0 h1 => by
  simp [execOp, ho, Instr.indexAt, hv, hv', asIntOf, run_underlying hu, sizeOf, typeInfo, hi, h0, h1, u7]
 split at hK
 ·rename_i fr z es k n hv hv'
  split at hK
  ·rename_i hz; subst hz
   obtain ⟨⟨h0, h1⟩, hK⟩ := hK
   have e2 := q9 hr' hv'
   have hd2 : DRel w (okE w0 okA E) (.sl fr i.size es) (a.eval x) := by
    have h5 : DRel w (if fr then (fun b => w0.heap.size <= b ∧ okE w0 okA E b) else okE w0 okA E) (.sl fr i.size es) (a.eval x) := u9 hr hv
    cases fr with
    | false => exact h5
    | true => exact DRel.keep h5 (.refl _ w) (fun b _ ho => ho.2)
   generalize hvx : a.eval x = vx at hd2
   cases hd2 with
   | nil => simp at h1; omega
   | @sl fr z es b off m c us hn hc hb hlt hz hcell hrel =>
    subst hn
    refine f9 (hrun b off _ c k n hvx e2 h0 h1) (hK _ _ E (h.put (.one ⟨b, off + n.toNat * i.size, fun j => us n.toNat j, rfl, hb, hlt, fun j x hx => ?_⟩) hd))
    grind
  ·exact hK.elim
 ·rename_i k' ver k n hv hv'
  split at hK
  ·rename_i r hs
   split at hK
   ·rename_i hver
    obtain ⟨hver, hz⟩ := hver
    obtain ⟨⟨h0, h1⟩, hK⟩ := hK
    have e2 := q9 hr' hv'
    obtain ⟨_, ver', z, u, hm, hle, hu', hzp⟩ := u9 hr hv
    obtain ⟨_, _, u', _, hm', hown, _⟩ := h.rwS hs (h.zpos hs hm hzp)
    have hm2 := hm
    rw [hm] at hm'
    simp only [Option.some.injEq, Prod.mk.injEq] at hm'
    obtain ⟨rfl, rfl, rfl⟩ := hm'
    rcases hown.2 with ⟨_, h9⟩ | ⟨g, cap, cur, rfl, _⟩
    ·omega
    ·refine f9 (hrun g 0 _ cap k n (hu' hver) e2 h0 h1) (hK _ _ E (h.put (.one ⟨rfl, r.ver, r.z, _, hm2, hle, fun _ => ⟨g, _, cap, rfl, by rw [hz]; simp⟩, hzp⟩) hd))
   ·exact hK.elim
  ·exact hK.elim
 ·rename_i k' ver lo k n hv hv'
  split at hK
  ·rename_i r hs
   split at hK
   ·rename_i hver
    obtain ⟨hver, hz⟩ := hver
    obtain ⟨⟨h0, h1⟩, hK⟩ := hK
    have e2 := q9 hr' hv'
    obtain ⟨_, ver', z, u, hm, hle, hu', hzp⟩ := u9 hr hv
    obtain ⟨_, _, u', _, hm', hown, _⟩ := h.rwS hs (h.zpos hs hm hzp)
    have hm2 := hm
    rw [hm] at hm'
    simp only [Option.some.injEq, Prod.mk.injEq] at hm'
    obtain ⟨rfl, rfl, rfl⟩ := hm'
    obtain ⟨g, m, c, A, hu1, hlo, hv1, hA⟩ := hu' hver
    rcases hown.2 with ⟨_, h9⟩ | ⟨g', cap, cur, hu2, _⟩
    ·omega
    ·rw [hu1] at hu2
     injection hu2 with hu2 hu3 hu4
     subst hu3
     have hA' := hA (by omega)
     subst hA'
     refine f9 (hrun g (lo * r.z) _ _ k n hv1 e2 h0 (by omega)) (hK _ _ E (h.put (.one ⟨rfl, r.ver, r.z, _, hm2, hle, fun _ => ⟨g, _, c, hu1, by rw [hz, Nat.add_mul]; simp⟩, hzp⟩) hd))
   ·exact hK.elim
  ·exact hK.elim
 ·exact hK.elim
theorem d1k (h : St w0 okA ext N s a w E) {t e : TypeId} {n : Nat} {i : TypeInfo} {x x' : Operand} {y y' : Opd} (hx : opd x = some y) (hx' : opd x' = some y') (hu : P.underlying t = some (.array n e)) (hi : P.info? e = some i)
  (ho : o.op = .indexAddr t x x') (hd : ∀ k, o.dst = some k -> k < N) (hK : q6 (c9 o.dst (.aadr n i.size y y') s) (n7 w0 okA ext N K)) : o.wp P a w K Q := by
 simp only [c9] at hK
 have hr := l5 h hx
 have hr' := l5 h hx'
 have hrun : ∀ (b off : Nat) (k : IntKind) (m : Int), a.eval x = .pointer (some ⟨b, off, none⟩) -> a.eval x' = .int k m -> 0 <= m -> m < n -> (execOp a.eval o).run P w = .ok (.value (.pointer (some ⟨b, off + m.toNat * i.size, none⟩))) w := fun b off k m hv hv' h0 h1 => by
  simp [execOp, ho, Instr.indexAt, hv, hv', asIntOf, run_underlying hu, Instr.sureAddr, sizeOf, typeInfo, hi, h0, h1, u7]
 split at hK
 ·rename_i k' off k m hv hv'
  obtain ⟨⟨h0, h1⟩, hK⟩ := hK
  have e2 := q9 hr' hv'
  obtain ⟨g, hg, hp⟩ := u9 hr hv
  exact f9 (hrun _ _ k m hp e2 h0 h1) (hK _ _ E (h.put (.one ⟨g, hg, rfl⟩) hd))
 ·rename_i cs k m hv hv'
  obtain ⟨⟨h0, h1⟩, hK⟩ := hK
  have e2 := q9 hr' hv'
  obtain ⟨b, off, us, hp, ho', hlt, hc⟩ := u9 hr hv
  refine f9 (hrun _ _ k m hp e2 h0 h1) (hK _ _ E (h.put (.one ⟨b, off + m.toNat * i.size, fun j => us (m.toNat * i.size + j), rfl, ho', hlt, fun j x hx => ?_⟩) hd))
  grind
 ·exact hK.elim
theorem b9t {t : TypeId} (hu : P.underlying t = some .string) (b : ByteArray) (lo hi' : Option Value) {l h : Nat}
  (hlo : (lo = none ∧ l = 0) ∨ ∃ k m, lo = some (.int k m) ∧ 0 <= m ∧ l = m.toNat) (hh : (hi' = none ∧ h = b.size) ∨ ∃ k m, hi' = some (.int k m) ∧ 0 <= m ∧ h = m.toNat) (hlh : l <= h) (hhn : h <= b.size) (w : World) :
  (Instr.sliceAt t (.string b) lo hi' none).run P w = .ok (.string (b.extract l h)) w := by
 rcases hlo with ⟨rfl, rfl⟩ | ⟨k, m, rfl, hm, rfl⟩ <;> rcases hh with ⟨rfl, rfl⟩ | ⟨k', m', rfl, hm', rfl⟩
 ·simp [Instr.sliceAt, run_underlying hu, Instr.slice, Instr.sliceBounds]
 ·have h1 : m' <= (b.size : Int) := by omega
  simp [Instr.sliceAt, run_underlying hu, Instr.slice, Instr.sliceBounds, Instr.sliceBound, asIntOf, hm', h1]
 ·have h1 : m <= (b.size : Int) := by omega
  simp [Instr.sliceAt, run_underlying hu, Instr.slice, Instr.sliceBounds, Instr.sliceBound, asIntOf, hm, h1]
 ·have h1 : m' <= (b.size : Int) := by omega
  have h2 : m <= m' := by omega
  have h3 : (m'.toNat : Int) = m' := by omega
  simp [Instr.sliceAt, run_underlying hu, Instr.slice, Instr.sliceBounds, Instr.sliceBound, asIntOf, hm, hm', h1, h2, h3]
theorem d0Z (h : St w0 okA ext N s a w E) {t : TypeId} {x : Operand} {y : Opd} (hx : opd x = some y) (hu : P.underlying t = some .string) (lo hi' : Option Operand) {i : Ins} (hi : a4D y lo hi' = some i)
  (ho : o.op = .slice t x lo hi' none) (hd : ∀ k, o.dst = some k -> k < N) (hK : q6 (c9 o.dst i s) (n7 w0 okA ext N K)) : o.wp P a w K Q := by
 have hr := l5 h hx
 have core : ∀ (b : ByteArray) (l hh : Nat), s.ev y = .one (.g (.string b)) -> ((lo.map a.eval = none ∧ l = 0) ∨ ∃ k m, lo.map a.eval = some (.int k m) ∧ 0 <= m ∧ l = m.toNat) -> ((hi'.map a.eval = none ∧ hh = b.size) ∨ ∃ k m, hi'.map a.eval = some (.int k m) ∧ 0 <= m ∧ hh = m.toNat) -> l <= hh -> hh <= b.size ->
   n7 w0 okA ext N K (s.put o.dst (sv (b.extract l hh))) -> o.wp P a w K Q := fun b l hh hv h1 h2 h3 h4 hK => by
  have e1 := q9 hr hv
  have hrun := b9t (P := P) hu b (lo.map a.eval) (hi'.map a.eval) h1 h2 h3 h4 w
  refine f9 (v := .string (b.extract l hh)) (w' := w) ?_ (hK _ _ E (h.put (.one ⟨rfl, rfl⟩) hd))
  simp only [execOp, ho, Option.map_none, Sem.run_bind, e1, hrun]
  rfl
 have gi : ∀ (u : Operand) (v : Opd) (k : IntKind) (m : Int), opd u = some v -> s.ev v = .one (.g (.int k m)) -> a.eval u = .int k m := fun u v k m hu hv => q9 (l5 h hu) hv
 unfold a4D at hi
 split at hi
 ·injection hi with hi; subst hi
  simp only [c9, Option.map_none] at hK
  split at hK
  ·rename_i b hv _ _
   refine core b 0 b.size hv (.inl ⟨rfl, rfl⟩) (.inl ⟨rfl, rfl⟩) (Nat.zero_le _) (Nat.le_refl _) ?_
   rw [ByteArray.extract_zero_size]; exact hK
  ·rename_i hc _; cases hc
  ·rename_i hc; cases hc
  ·rename_i hc _; cases hc
  ·exact hK.elim
 ·rename_i u
  simp only [Option.map_eq_some_iff] at hi
  obtain ⟨v, huv, rfl⟩ := hi
  simp only [c9, Option.map_none, Option.map_some] at hK
  split at hK
  ·rename_i hc _; cases hc
  ·rename_i b k l hv hl _
   simp only [Option.some.injEq] at hl
   obtain ⟨⟨h0, h1⟩, hK⟩ := hK
   exact core b l.toNat b.size hv (.inr ⟨k, l, by simp [gi u v k l huv hl], h0, rfl⟩) (.inl ⟨rfl, rfl⟩) (by omega) (Nat.le_refl _) hK
  ·rename_i hc; cases hc
  ·rename_i hc; cases hc
  ·exact hK.elim
 ·rename_i u
  simp only [Option.map_eq_some_iff] at hi
  obtain ⟨v, huv, rfl⟩ := hi
  simp only [c9, Option.map_none, Option.map_some] at hK
  split at hK
  ·rename_i hc; cases hc
  ·rename_i hc _; cases hc
  ·rename_i b k l hv _ hl
   simp only [Option.some.injEq] at hl
   obtain ⟨⟨h0, h1⟩, hK⟩ := hK
   exact core b 0 l.toNat hv (.inl ⟨rfl, rfl⟩) (.inr ⟨k, l, by simp [gi u v k l huv hl], h0, rfl⟩) (by omega) (by omega) hK
  ·rename_i hc _; cases hc
  ·exact hK.elim
 ·rename_i u u'
  split at hi
  ·rename_i v v' huv huv'
   injection hi with hi; subst hi
   simp only [c9, Option.map_some] at hK
   split at hK
   ·rename_i hc _; cases hc
   ·rename_i hc; cases hc
   ·rename_i hc _; cases hc
   ·rename_i b k l k' m hv hl hm
    simp only [Option.some.injEq] at hl hm
    obtain ⟨⟨h0, h1, h2⟩, hK⟩ := hK
    exact core b l.toNat m.toNat hv (.inr ⟨k, l, by simp [gi u v k l huv hl], h0, rfl⟩) (.inr ⟨k', m, by simp [gi u' v' k' m huv' hm], by omega, rfl⟩) (by omega) (by omega) hK
   ·exact hK.elim
  ·cases hi
theorem a3y {b off : Nat} {cs : List Cel} {us : Nat -> Value} {ok : Nat -> Prop} {base : Nat} (hc : ∀ (j : Nat) (x : Cel), cs[j]? = some x -> w.cell? ⟨b, off + j, none⟩ = some (us j) ∧ CRel w ok base E x (us j)) {t : TypeId} {d : TypeDesc} {i : TypeInfo}
  (hu : P.underlying t = some d) (hi : P.info? t = some i) (x : Operand) (hx : a.eval x = .pointer (some ⟨b, off, none⟩)) (ho : o.op = .load t x) :
  ∀ s' T, q6 (Q0 s s' (K7 d) i.size cs) T -> ∃ v y, (execOp a.eval o).run P w = .ok (.value v) w ∧ VRel w ok base E y v ∧ T (s.put s' y) := by
 intro dst T hK
 unfold Q0 at hK
 split at hK
 ·rename_i hagg
  obtain ⟨hl, hK⟩ := hK
  refine ⟨.agg ((List.range i.size).map us).toArray, _, ?_, .ag ⟨by simp; omega, fun j c u h1 h2 => ?_⟩, hK⟩
  ·have h1 : K7 d = true := hagg
   have hload := run_loadCells_list (P := P) (w := w) ⟨b, off, none⟩ ((List.range i.size).map us) (fun j v hv => by
    rw [u7]
    rw [List.getElem?_map] at hv
    cases hj : (List.range i.size)[j]? with
    | none => rw [hj] at hv; cases hv
    | some j' =>
     rw [hj] at hv; simp at hv; subst hv
     have : j < i.size ∧ j' = j := by
      grind
     obtain ⟨h3, rfl⟩ := this
     exact (hc j' (cs[j']'(by omega)) (List.getElem?_eq_getElem _)).1)
   have hsz : ((List.range i.size).map us).length = i.size := by simp
   rw [hsz] at hload
   cases d <;> simp [K7] at h1 <;> simp [execOp, ho, hx, Instr.loadAt, Instr.sureAddr, loadVar, isAgg, run_underlying hu, sizeOf, typeInfo, hi, hload]
  ·grind
 ·rename_i hagg
  split at hK
  ·rename_i c cs'
   obtain ⟨h1, h2⟩ := hc 0 c rfl
   refine ⟨us 0, _, ?_, .one h2, hK⟩
   have h3 : K7 d = false := by simpa using hagg
   rw [Nat.add_zero] at h1
   cases d <;> simp [K7] at h3 <;> simp [execOp, ho, hx, Instr.loadAt, Instr.sureAddr, loadVar, isAgg, run_underlying hu, load, Sem.run, h1]
  ·exact hK.elim
theorem d2u (h : St w0 okA ext N s a w E) {t : TypeId} {d : TypeDesc} {i : TypeInfo} {x : Operand} {y : Opd} (hx : opd x = some y) (hu : P.underlying t = some d) (hi : P.info? t = some i)
  (ho : o.op = .load t x) (hd : ∀ k, o.dst = some k -> k < N) (hK : q6 (c9 o.dst (.load (K7 d) i.size y) s) (n7 w0 okA ext N K)) : o.wp P a w K Q := by
 simp only [c9] at hK
 have hr := l5 h hx
 split at hK
 ·rename_i k off hv
  split at hK
  ·rename_i cs hs
   obtain ⟨g, hg, hp⟩ := u9 hr hv
   obtain ⟨g', cur, ty, h1, h2, h3⟩ := h.bx k cs hs
   rw [hg] at h1; injection h1 with h1; subst h1
   obtain ⟨v, yv, hrun, hrel, hT⟩ := a3y (E := E) (a := a) (o := o) (s := s) (cs := cs.drop off) (us := fun j => (cur.toList[off + j]?).getD undef) (ok := okE w0 okA E) (base := w0.heap.size) (fun j x hx => by
    rw [List.getElem?_drop] at hx
    obtain ⟨u, h4, h5⟩ := h3.at_ hx
    simp only [h4, Option.getD_some]
    exact ⟨by rw [cell_of_row w g (off + j) cur ty (0, 0) h2, <- Array.getElem?_toList, h4], h5⟩) hu hi x hp ho _ _ hK
   exact f9 hrun (hT _ _ E (h.put hrel hd))
  ·exact hK.elim
 ·rename_i cs hv
  obtain ⟨b, off, us, hp, hok, hlt, hc⟩ := u9 hr hv
  obtain ⟨v, yv, hrun, hrel, hT⟩ := a3y (E := E) (a := a) (o := o) (s := s) (cs := cs.map Cel.dat) (us := us) (ok := okE w0 okA E) (base := w0.heap.size) (fun j x hx => by
    rw [List.getElem?_map] at hx
    cases hj : cs[j]? with
    | none => rw [hj] at hx; cases hx
    | some c0 =>
     rw [hj] at hx; simp at hx; subst hx
     obtain ⟨h1, h2⟩ := hc j c0 hj
     refine ⟨h1, ?_⟩
     generalize us j = uj at h2
     cases h2 with
     | g hv => exact ⟨rfl, hv⟩
     | any hv => exact hv
     | nil => exact DRel.nil
     | sl us' h1 h2 h3 h4 h5 h6 h7 => exact DRel.sl us' h1 h2 h3 h4 h5 h6 h7
     | fm cs' h1 h2 h3 h4 h5 h6 => exact DRel.fm cs' h1 h2 h3 h4 h5 h6) hu hi x hp ho _ _ hK
  exact f9 hrun (hT _ _ E (h.put hrel hd))
 ·rename_i k ver j off hv
  split at hK
  ·rename_i r hs
   split at hK
   ·rename_i hver
    split at hK
    ·rename_i e he
     obtain ⟨_, ver', z, u, hm, hle, hu', hzp⟩ := u9 hr hv
     obtain ⟨_, hrow, u', vs, hm', hown, hrel0⟩ := h.rwS hs (h.zpos hs hm hzp)
     rw [hm] at hm'
     simp only [Option.some.injEq, Prod.mk.injEq] at hm'
     obtain ⟨rfl, rfl, rfl⟩ := hm'
     obtain ⟨g, n, c, rfl, hp⟩ := hu' hver
     obtain ⟨v, yv, hrun, hrel, hT⟩ := a3y (E := E) (a := a) (o := o) (s := s) (cs := e.drop off) (us := fun l => vs.getD (j * r.z + (off + l)) undef) (ok := okE w0 okA E) (base := w0.heap.size) (fun l x hx => by
      have hx' := hx
      rw [List.getElem?_drop] at hx'
      obtain ⟨h6, h7, h8⟩ := a4P (n := 0) hrow hrel0 he hx'
      have h4 := hown.cells (g := g) rfl _ _ h6
      rw [u7, Nat.zero_add, <- Nat.add_assoc] at h4
      exact ⟨by rw [h4, Nat.add_assoc], (h8.ofD h7).toC⟩) hu hi x hp ho _ _ hK
     exact f9 hrun (hT _ _ E (h.put hrel hd))
    ·exact hK.elim
   ·exact hK.elim
  ·exact hK.elim
 ·exact hK.elim
end
end Go.Ai
namespace Go.Ai
open Go
section lists
variable {α : Type}
theorem a1V (cs : List α) (off : Nat) (news : List α) (h : off + news.length <= cs.length) : (wr cs off news).length = cs.length := by
 simp [wr]; omega
theorem T8 (e F : List α) (off : Nat) (news : List α) (h : off + news.length <= e.length) : wr e off news ++ F = wr (e ++ F) off news := by
 simp only [wr, List.append_assoc]
 grind
theorem a1o (e F : List α) (off : Nat) (news : List α) : e ++ wr F off news = wr (e ++ F) (e.length + off) news := by
 simp only [wr, List.take_length_add_append, Nat.add_assoc, List.drop_length_add_append, List.append_assoc]
theorem a2P {z : Nat} (off : Nat) (news : List α) (hn : off + news.length <= z) : ∀ {es : List (List α)} {i : Nat} {e : List α}, (∀ e ∈ es, e.length = z) -> es[i]? = some e ->
  (es.set i (wr e off news)).flatten = wr es.flatten (i * z + off) news
 | [], i, e, _, he => by simp at he
 | e0 :: es, 0, e, hz, he => by
  simp at he; subst he
  have h0 : e0.length = z := hz e0 (by simp)
  simp only [List.set_cons_zero, List.flatten_cons, Nat.zero_mul, Nat.zero_add]
  exact T8 e0 es.flatten off news (by omega)
 | e0 :: es, i + 1, e, hz, he => by
  have h0 : e0.length = z := hz e0 (by simp)
  have ih := a2P off news hn (es := es) (fun e h => hz e (by simp [h])) (by simpa using he)
  simp only [List.set_cons_succ, List.flatten_cons, ih]
  rw [a1o, h0]
  grind
theorem C4 {z : Nat} : ∀ {es : List (List α)}, (∀ e ∈ es, e.length = z) -> es.flatten.length = es.length * z
 | [], _ => by simp
 | e0 :: es, hz => by
  have ih := C4 (es := es) (fun e h => hz e (by simp [h]))
  grind
theorem a1R {z : Nat} : ∀ {es : List (List α)}, (∀ e ∈ es, e.length = z) -> ∀ {j : Nat} {x : α}, es.flatten[j]? = some x -> ∃ i k e, es[i]? = some e ∧ e[k]? = some x ∧ j = i * z + k
 | [], _, j, x, h => by simp at h
 | e0 :: es, hz, j, x, h => by
  have h0 : e0.length = z := hz e0 (by simp)
  rw [List.flatten_cons, List.getElem?_append] at h
  split at h
  ·exact ⟨0, j, e0, rfl, h, by simp⟩
  ·rename_i hge
   obtain ⟨i, k, e, h1, h2, h3⟩ := a1R (es := es) (fun e h => hz e (by simp [h])) h
   exact ⟨i + 1, k, e, by simpa using h1, h2, by rw [Nat.add_mul]; omega⟩
theorem c3Z (cs : List α) (off : Nat) (news : List α) (m : Nat) (h : off + news.length <= m) (hm : m <= cs.length) : (wr cs off news).take m = wr (cs.take m) off news := by
 have h1 : cs = cs.take m ++ cs.drop m := (List.take_append_drop m cs).symm
 have h2 : off + news.length <= (cs.take m).length := by simp; omega
 conv => lhs; rw [h1, <- T8 _ _ _ _ h2]
 have h3 : (wr (cs.take m) off news).length = m := by rw [a1V _ _ _ h2]; simp; omega
 grind
end lists
section
variable {P : Program} {w0 w w' : World} {okA : Nat -> Prop} {ext : Ext} {N : Nat} {s : AS} {a : Act} {E : Env} {o : Oper} {K : Act -> World -> Prop} {Q : Exit -> Act -> World -> Prop}
theorem CsRel.wr {cs ds : List Cel} {us vs : List Value} {ok : Nat -> Prop} {base off : Nat} (h : CsRel w ok base E cs us) (k : CsRel w ok base E ds vs) : CsRel w ok base E (Ai.wr cs off ds) (Ai.wr us off vs) := by
 unfold Ai.wr
 rw [<- k.1]
 exact ((h.take off).append k).append (h.drop _)
theorem RRel.wr {cs ds : List Cel} {us vs : List Value} {ok : Nat -> Prop} {base off : Nat} (h : RRel w ok base cs us) (k : RRel w ok base ds vs) : RRel w ok base (Ai.wr cs off ds) (Ai.wr us off vs) := by
 unfold Ai.wr
 rw [<- k.1]
 exact ((h.take off).append k).append (h.drop _)
theorem Y2 {g : Nat} {cur : Array Value} {ty t : TypeId} {i : TypeInfo} {off : Nat} {v : Value} (hg : w.heap[g]? = some (.cells cur ty (0, 0))) (hi : P.info? t = some i) (hv : v.cells.size = i.size) (hl : off + i.size <= cur.size)
  (h1 : ∀ u ∈ v.cells.toList, u.oneCell' = true) (x y : Operand) (hx : a.eval x = .pointer (some ⟨g, off, none⟩)) (hy : a.eval y = v) (ho : o.op = .store t x y) :
  (execOp a.eval o).run P w = .ok .skip (w.setRow g (wr cur.toList off v.cells.toList).toArray) := by
 have hs := run_storeCells_at (P := P) g off ty v.cells.toList 0 cur w hg (by simp; omega) h1
 simp only [Nat.add_zero] at hs
 simp only [execOp, ho, hx, hy, Instr.storeAt, Instr.sureAddr, storeVar, sizeOf, typeInfo, hv]
 simp [hi, hv, hs, wr]
theorem Q6 (w : World) (g : Nat) (cs : Array Value) : w.grownBy (w.setRow g cs) (some g) :=
 ⟨rfl, rfl, rfl, by simp, fun k _ hk => setRow_other w g k cs (by simpa using hk)⟩
theorem c6j (h : St w0 okA ext N s a w E) {t : TypeId} {i : TypeInfo} {x x' : Operand} {y y' : Opd} (hx : opd x = some y) (hx' : opd x' = some y') (hi : P.info? t = some i)
  (ho : o.op = .store t x x') (hd : ∀ k, o.dst = some k -> k < N) (hK : q6 (c9 o.dst (.store i.size y y') s) (n7 w0 okA ext N K)) : o.wp P a w K Q := by
 simp only [c9] at hK
 have hr := l5 h hx
 have hr' := l5 h hx'
 split at hK
 ·rename_i k off news hv hnews
  split at hK
  ·rename_i cs hs
   split at hK
   ·rename_i hnl
    obtain ⟨hl, hK⟩ := hK
    obtain ⟨g, hg, hp⟩ := u9 hr hv
    obtain ⟨g', cur, ty, h1, h2, h3⟩ := h.bx k cs hs
    rw [hg] at h1; injection h1 with h1; subst h1
    have h4 := hr'.cells hnews
    have hsz : (a.eval x').cells.size = i.size := by have := h4.1; simp at this; omega
    have hcl : cs.length = cur.size := by simpa using h3.1
    have hrun := Y2 (P := P) (a := a) (o := o) h2 hi hsz (by omega) h4.ones x x' hp rfl ho
    have hgr := Q6 w g (Ai.wr cur.toList off (a.eval x').cells.toList).toArray
    have hkeep : Keeps (okE w0 okA E) w (w.setRow g (Ai.wr cur.toList off (a.eval x').cells.toList).toArray) := ⟨hgr.size, fun b hb ho => hgr.block b hb (fun e => ho.1 k (by rw [hg]; exact e.symm))⟩
    have hst := h.boxTurn (cs' := Ai.wr cs off news) hg hgr (setRow_heap w g cur _ ty (0, 0) h2) ((h3.wr h4).move hkeep (fun _ _ h => h) (Nat.le_refl _) (.refl E)) (fun hk => by obtain ⟨c0, T, q1, q2⟩ := h.bt k g hk hg; rw [h2] at q1; injection q1 with q1; injection q1 with _ q1; rw [q1]; exact q2)
    exact a4b hrun (hK _ _ E (hst.put .any hd))
   ·exact hK.elim
  ·exact hK.elim
 ·rename_i k ver j off news hv hnews
  split at hK
  ·rename_i r hs
   split at hK
   ·rename_i hcond
    simp only [Bool.and_eq_true, decide_eq_true_eq, List.all_eq_true] at hcond
    obtain ⟨⟨hver, hnl⟩, hgs⟩ := hcond
    split at hK
    ·rename_i e he
     obtain ⟨hl, hK⟩ := hK
     obtain ⟨_, ver', z, u, hm, hle, hu', hzp⟩ := u9 hr hv
     obtain ⟨hz0, hrow, u', vs, hm', hown, hrel0⟩ := h.rwS hs (h.zpos hs hm hzp)
     have hm2 := hm
     rw [hm] at hm'
     simp only [Option.some.injEq, Prod.mk.injEq] at hm'
     obtain ⟨rfl, rfl, rfl⟩ := hm'
     obtain ⟨g, n, c, rfl, hp⟩ := hu' hver
     have h4 := hr'.cells hnews
     have hsz : (a.eval x').cells.size = i.size := by have := h4.1; simp at this; omega
     have hone := h4.ones
     rcases hown.2 with ⟨h5, _⟩ | ⟨g', cap, cur, h5, hbg, hg, hnc, hcm, hcs, htake⟩
     ·cases h5
     ·simp only [Value.slice.injEq, Option.some.injEq, Addr.mk.injEq, and_true] at h5
      obtain ⟨rfl, rfl, rfl⟩ := h5
      have hlen : e.length = r.z := hrow e (List.mem_of_getElem? he)
      have hj : j < r.es.length := (List.getElem?_eq_some_iff.1 he).1
      have hfl : vs.length = r.es.length * r.z := hown.1
      have hjz : j * r.z + r.z <= r.es.length * r.z := by rw [<- Nat.succ_mul]; exact Nat.mul_le_mul_right _ hj
      have hcz : r.es.length * r.z <= c * r.z := Nat.mul_le_mul_right _ hnc
      have hrun := Y2 (P := P) (a := a) (o := o) hg hi hsz (by omega) hone x x' hp rfl ho
      have hgr := Q6 w g (Ai.wr cur.toList (j * r.z + off) (a.eval x').cells.toList).toArray
      have hrow' : Y5 r.z (r.es.set j (Ai.wr e off news)) := fun e' he' => by
       rcases List.mem_or_eq_of_mem_set he' with h6 | rfl
       ·exact hrow e' h6
       ·rw [a1V _ _ _ (by omega)]; exact hlen
      have hnews' : (a.eval x').cells.toList.length = news.length := h4.1.symm
      have hflat : (r.es.set j (Ai.wr e off news)).flatten = Ai.wr r.es.flatten (j * r.z + off) news := a2P off news (by omega) hrow he
      have hrel' : RRel w (okE w0 okA E) w0.heap.size (r.es.set j (Ai.wr e off news)).flatten (Ai.wr vs (j * r.z + off) (a.eval x').cells.toList) := by
       rw [hflat]; exact hrel0.wr (RRel.of h4 hgs)
      have hst := h.rowTurn (r' := { r with es := r.es.set j (Ai.wr e off news) }) (u' := .slice (some ⟨g, 0, none⟩) r.es.length c) (vs' := Ai.wr vs (j * r.z + off) (a.eval x').cells.toList) hz0 hs hm2 rfl (Nat.le_refl _) (fun _ => rfl) hrow' hgr ⟨by rw [a1V _ _ _ (by omega)]; simpa using hfl, .inr ⟨g, c, _, by simp, hbg, setRow_heap w g cur _ _ (0, 0) hg, by simpa using hnc, hcm, by simp [Ai.wr]; omega, by
       simp only [List.length_set]
       rw [c3Z _ _ _ _ (by omega) (by simp; omega), htake]⟩⟩ hrel' (.inl rfl)
      exact a4b hrun (hK _ _ _ (hst.put .any hd))
    ·exact hK.elim
   ·exact hK.elim
  ·exact hK.elim
 ·exact hK.elim
end
end Go.Ai
namespace Go.Ai
open Go
section
variable {P : Program} {w0 w w' : World} {okA : Nat -> Prop} {ext : Ext} {N : Nat} {s : AS} {a : Act} {E : Env} {o : Oper} {K : Act -> World -> Prop} {Q : Exit -> Act -> World -> Prop}
theorem DRel.cut {v : Value} {fr : Bool} {z : Nat} {es : List (List Cel)} {ok : Nat -> Prop} (h : DRel w ok (.sl fr z es) v) {l hh : Nat} (hl : l <= hh) (hle : hh <= es.length) :
  ∃ b n c, v = .slice b n c ∧ n = es.length ∧ n <= c ∨ (∃ b c, v = .slice b 0 c ∧ es = [] ∧ l = 0 ∧ hh = 0) := by
 cases h with
 | nil => simp at hle; subst hle; simp at hl; subst hl; exact ⟨none, 0, 0, .inr ⟨_, _, rfl, rfl, rfl, rfl⟩⟩
 | sl us h1 h2 => exact ⟨_, _, _, .inl ⟨rfl, h1, h2⟩⟩
theorem c4E {v : Value} {fr : Bool} {z : Nat} {es : List (List Cel)} {ok : Nat -> Prop} (h : DRel w ok (.sl fr z es) v) {l hh : Nat} (hl : l <= hh) (hle : hh <= es.length) {b : Option Addr} {n c : Nat} (hv : v = .slice b n c) (hc : hh <= c) :
  DRel w ok (.sl fr z ((es.take hh).drop l)) (.slice (if c = l then b else b.map (·.add (l * z))) (hh - l) (c - l)) := by
 subst hv
 by_cases he : (es.take hh).drop l = []
 ·rw [he]
  have : hh - l = 0 := by have := congrArg List.length he; simp at this; omega
  rw [this]; exact .nil
 ·cases h with
  | nil => simp at he
  | @sl fr z es b off n c us h1 h2 h3 h4 h5 h6 h7 =>
   have hlt : l < hh := by
    all_goals grind
   rw [if_neg (by omega)]
   simp only [Option.map_some, u7]
   refine .sl (fun i j => us (l + i) j) (by simp; omega) (by omega) h3 h4 (fun e hm => h5 e (List.mem_of_mem_take (List.mem_of_mem_drop hm))) (fun i e j x hi hx => ?_) (fun i e j x hi hx => ?_)
   ·all_goals grind
   ·all_goals grind
theorem DRel.cap {v : Value} {fr : Bool} {z : Nat} {es : List (List Cel)} {ok : Nat -> Prop} (h : DRel w ok (.sl fr z es) v) : ∃ b c, v = .slice b es.length c ∧ es.length <= c := by
 cases h with
 | nil => exact ⟨_, _, rfl, Nat.zero_le _⟩
 | sl us h1 h2 => subst h1; exact ⟨_, _, rfl, h2⟩
theorem H4 {t e : TypeId} {i : TypeInfo} (hu : P.underlying t = some (.slice e)) (hi : P.info? e = some i) (x : Value) (lo hi' : Option Value) {b : Option Addr} {n c l h : Nat} (hx : x = .slice b n c) (hn : n <= c)
  (hlo : (lo = none ∧ l = 0) ∨ ∃ k m, lo = some (.int k m) ∧ 0 <= m ∧ l = m.toNat) (hh : (hi' = none ∧ h = n) ∨ ∃ k m, hi' = some (.int k m) ∧ 0 <= m ∧ h = m.toNat) (hlh : l <= h) (hhn : h <= n) (w : World) :
  (Instr.sliceAt t x lo hi' none).run P w = .ok (.slice (if c = l then b else b.map (·.add (l * i.size))) (h - l) (c - l)) w := by
 subst hx
 have hcl : (c : Int) = c := rfl
 rcases hlo with ⟨rfl, rfl⟩ | ⟨k, m, rfl, hm, rfl⟩ <;> rcases hh with ⟨rfl, rfl⟩ | ⟨k', m', rfl, hm', rfl⟩
 ·simp [Instr.sliceAt, run_underlying hu, Instr.slice, Instr.sliceBounds, sizeOf, typeInfo, hi]
 ·have h1 : m' <= (c : Int) := by omega
  simp [Instr.sliceAt, run_underlying hu, Instr.slice, Instr.sliceBounds, Instr.sliceBound, asIntOf, sizeOf, typeInfo, hi, hm', h1]
 ·have h1 : m <= (h : Int) := by omega
  simp [Instr.sliceAt, run_underlying hu, Instr.slice, Instr.sliceBounds, Instr.sliceBound, asIntOf, sizeOf, typeInfo, hi, hm, h1]
 ·have h1 : m' <= (c : Int) := by omega
  have h2 : m <= m' := by omega
  have h3 : (m'.toNat : Int) = m' := by omega
  simp [Instr.sliceAt, run_underlying hu, Instr.slice, Instr.sliceBounds, Instr.sliceBound, asIntOf, sizeOf, typeInfo, hi, hm, hm', h1, h2, h3]
theorem a0X (h : St w0 okA ext N s a w E) {t e : TypeId} {i : TypeInfo} {x : Operand} {y : Opd} (hx : opd x = some y) (hu : P.underlying t = some (.slice e)) (hi : P.info? e = some i) (lo hi' : Option Operand)
  (ho : o.op = .slice t x lo hi' none) (hd : ∀ k, o.dst = some k -> k < N) {fr : Bool} {es : List (List Cel)} (hv : s.ev y = .one (.sl fr i.size es)) {l hh : Nat}
  (hlo : (lo.map a.eval = none ∧ l = 0) ∨ ∃ k m, lo.map a.eval = some (.int k m) ∧ 0 <= m ∧ l = m.toNat) (hhi : (hi'.map a.eval = none ∧ hh = es.length) ∨ ∃ k m, hi'.map a.eval = some (.int k m) ∧ 0 <= m ∧ hh = m.toNat) (hlh : l <= hh) (hhn : hh <= es.length)
  (hK : n7 w0 okA ext N K (s.put o.dst (.one (.sl fr i.size ((es.take hh).drop l))))) : o.wp P a w K Q := by
 have hr := l5 h hx
 have h1 : DRel w (if fr then (fun b => w0.heap.size <= b ∧ okE w0 okA E b) else okE w0 okA E) (.sl fr i.size es) (a.eval x) := u9 hr hv
 obtain ⟨b, c, hval, hcap⟩ := h1.cap
 have hrun := H4 hu hi (a.eval x) (lo.map a.eval) (hi'.map a.eval) hval hcap hlo hhi hlh hhn w
 have h2 := c4E h1 hlh hhn hval (Nat.le_trans hhn hcap)
 refine f9 (v := _) (w' := w) ?_ (hK _ _ E (h.put (.one h2) hd))
 simp only [execOp, ho, Option.map_none, Sem.run_bind, hrun]
 rfl
theorem b7h (h : St w0 okA ext N s a w E) {t e : TypeId} {i : TypeInfo} {x : Operand} {y : Opd} (hx : opd x = some y) (hu : P.underlying t = some (.slice e)) (hi : P.info? e = some i) (lo hi' : Option Operand) (lo' hi'' : Option Opd)
  (hlo : (lo = none ∧ lo' = none) ∨ ∃ u v, lo = some u ∧ lo' = some v ∧ opd u = some v) (hhi : (hi' = none ∧ hi'' = none) ∨ ∃ u v, hi' = some u ∧ hi'' = some v ∧ opd u = some v)
  (ho : o.op = .slice t x lo hi' none) (hd : ∀ k, o.dst = some k -> k < N) (hK : q6 (c9 o.dst (.slc i.size y lo' hi'') s) (n7 w0 okA ext N K)) : o.wp P a w K Q := by
 simp only [c9] at hK
 split at hK
 ·rename_i fr z es hv hl hh
  split at hK
  ·rename_i hz; subst hz
   rcases hlo with ⟨rfl, rfl⟩ | ⟨u, v, rfl, rfl, _⟩
   ·rcases hhi with ⟨rfl, rfl⟩ | ⟨u, v, rfl, rfl, _⟩
    ·refine a0X h hx hu hi none none ho hd hv (l := 0) (hh := es.length) (.inl ⟨rfl, rfl⟩) (.inl ⟨rfl, rfl⟩) (Nat.zero_le _) (Nat.le_refl _) ?_
     have hK' : n7 w0 okA ext N K _ := hK
     simpa using hK'
    ·simp at hh
   ·simp at hl
  ·exact hK.elim
 ·rename_i fr z es k l hv hl hh
  split at hK
  ·rename_i hz; subst hz
   obtain ⟨⟨h0, h1⟩, hK⟩ := hK
   rcases hlo with ⟨rfl, rfl⟩ | ⟨u, v, rfl, rfl, huv⟩
   ·simp at hl
   ·rcases hhi with ⟨rfl, rfl⟩ | ⟨u', v', rfl, rfl, _⟩
    ·have e1 := q9 (l5 h huv) (by simpa using hl)
     refine a0X h hx hu hi (some u) none ho hd hv (l := l.toNat) (hh := es.length) (.inr ⟨k, l, by simp [e1], h0, rfl⟩) (.inl ⟨rfl, rfl⟩) (by omega) (Nat.le_refl _) ?_
     simpa using hK
    ·simp at hh
  ·exact hK.elim
 ·rename_i fr z es k m hv hl hh
  split at hK
  ·rename_i hz; subst hz
   obtain ⟨⟨h0, h1⟩, hK⟩ := hK
   rcases hlo with ⟨rfl, rfl⟩ | ⟨u, v, rfl, rfl, huv⟩
   ·rcases hhi with ⟨rfl, rfl⟩ | ⟨u', v', rfl, rfl, huv⟩
    ·simp at hh
    ·have e1 := q9 (l5 h huv) (by simpa using hh)
     refine a0X h hx hu hi none (some u') ho hd hv (l := 0) (hh := m.toNat) (.inl ⟨rfl, rfl⟩) (.inr ⟨k, m, by simp [e1], h0, rfl⟩) (by omega) (by omega) ?_
     simpa using hK
   ·simp at hl
  ·exact hK.elim
 ·rename_i fr z es k l k' m hv hl hh
  split at hK
  ·rename_i hz; subst hz
   obtain ⟨⟨h0, h1, h2⟩, hK⟩ := hK
   rcases hlo with ⟨rfl, rfl⟩ | ⟨u, v, rfl, rfl, huv⟩
   ·simp at hl
   ·rcases hhi with ⟨rfl, rfl⟩ | ⟨u', v', rfl, rfl, huv'⟩
    ·simp at hh
    ·have e1 := q9 (l5 h huv) (by simpa using hl)
     have e2 := q9 (l5 h huv') (by simpa using hh)
     exact a0X h hx hu hi (some u) (some u') ho hd hv (l := l.toNat) (hh := m.toNat) (.inr ⟨k, l, by simp [e1], h0, rfl⟩) (.inr ⟨k', m, by simp [e2], by omega, rfl⟩) (by omega) (by omega) hK
  ·exact hK.elim
 ·rename_i k ver k1 l k2 m hv hl hh
  split at hK
  ·rename_i r hs
   split at hK
   ·rename_i hcond
    obtain ⟨hver, hz⟩ := hcond
    obtain ⟨⟨h0, h1, h2, h9⟩, hK⟩ := hK
    rcases hlo with ⟨rfl, rfl⟩ | ⟨u1, v1, rfl, rfl, huv⟩
    ·simp at hl
    ·rcases hhi with ⟨rfl, rfl⟩ | ⟨u2, v2, rfl, rfl, huv'⟩
     ·simp at hh
     ·have e1 := q9 (l5 h huv) (by simpa using hl)
      have e2 := q9 (l5 h huv') (by simpa using hh)
      have hr := l5 h hx
      obtain ⟨_, ver', z, u, hm, hle, hu', hzp⟩ := u9 hr hv
      obtain ⟨_, _, u', vs, hm', hown, _⟩ := h.rwS hs (h.zpos hs hm hzp)
      have hm2 := hm
      rw [hm] at hm'
      simp only [Option.some.injEq, Prod.mk.injEq] at hm'
      obtain ⟨rfl, rfl, rfl⟩ := hm'
      have hx1 := hu' hver
      rcases hown.2 with ⟨_, h3⟩ | ⟨g, cap, cur, rfl, _, _, hnc, _⟩
      ·omega
      ·have hrun := H4 (P := P) hu hi (a.eval x) (some (a.eval u1)) (some (a.eval u2)) hx1 hnc (l := l.toNat) (h := m.toNat) (.inr ⟨k1, l, by rw [e1], h0, rfl⟩) (.inr ⟨k2, m, by rw [e2], by omega, rfl⟩) (by omega) (by omega) w
       refine f9 (v := .slice (if cap = l.toNat then some ⟨g, 0, none⟩ else (some (⟨g, 0, none⟩ : Addr)).map (·.add (l.toNat * i.size))) (m.toNat - l.toNat) (cap - l.toNat)) (w' := w) ?_ (hK _ _ E (h.put (.one ?_) hd))
       ·simp only [execOp, ho, Option.map_none, Option.map_some, Sem.run_bind, hrun]
        rfl
       ·split
        ·rename_i hcap
         exact ⟨rfl, r.ver, r.z, _, hm2, hle, fun _ => ⟨g, _, cap, _, _, rfl, by omega, by omega, rfl, by omega, fun hlt => by omega⟩, hzp⟩
        ·refine ⟨rfl, r.ver, r.z, _, hm2, hle, fun _ => ⟨g, _, cap, _, _, rfl, by omega, by omega, rfl, by omega, fun _ => ?_⟩, hzp⟩
         show (Addr.mk g 0 none).add (l.toNat * i.size) = _
         rw [u7, Nat.zero_add, hz]
   ·exact hK.elim
  ·exact hK.elim
 ·exact hK.elim
/-! ### literals -/
theorem a4B (off : Nat) : ∀ (l : List Value) (k : Nat) (cells : Array Value), off + k + l.length <= cells.size ->
  ((l.zipIdx k).foldl (fun cs (p : Value × Nat) => cs.setIfInBounds (off + p.2) p.1) cells).toList = wr cells.toList (off + k) l
 | [], k, cells, _ => by simp [wr]
 | v :: l, k, cells, h => by
  simp only [List.zipIdx_cons, List.foldl_cons]
  rw [a4B off l (k + 1) _ (by simp at h ⊢; omega)]
  simp only [Array.toList_setIfInBounds, wr, List.length_cons]
  have hlt : off + k < cells.toList.length := by simp at h ⊢; omega
  rw [show off + (k + 1) = off + k + 1 by omega]
  rw [List.take_set, List.drop_set_of_lt (by omega)]
  rw [List.take_succ_eq_append_getElem hlt, List.set_append_right _ _ (by simp; omega)]
  simp
  simp at hlt
  rw [show min (off + k) cells.size = off + k by omega]
  simp
  omega
theorem a4L {place : Nat -> Option (Nat × Nat)} {cells : Array Value} {i off size : Nat} {v : Value} {rest : List (Nat × Value)} (hp : place i = some (off, size)) (hs : v.cells.size = size) (hl : off + size <= cells.size) :
  Instr.fill place cells ((i, v) :: rest) = Instr.fill place (wr cells.toList off v.cells.toList).toArray rest := by
 have h := a4B off v.cells.toList 0 cells (by simp; omega)
 have h2 : v.cells.zipIdx.foldl (fun cs (p : Value × Nat) => cs.setIfInBounds (off + p.2) p.1) cells = (wr cells.toList off v.cells.toList).toArray := by
  apply Array.ext'
  rw [<- Array.foldl_toList, Array.toList_zipIdx, h]; simp
 simp only [Instr.fill, hp, hs]
 grind
theorem Z7 {α β : Type} {f : α -> Option β} : ∀ {l : List α} {r : List β}, l.mapM f = some r -> ∀ {i : Nat} {x : α}, l[i]? = some x -> r[i]? = f x
 | [], r, h, i, x, hx => by simp at hx
 | y :: l, r, h, i, x, hx => by
  simp only [List.mapM_cons, Option.bind_eq_bind, Option.bind_eq_some_iff, Option.pure_def, Option.some.injEq] at h
  obtain ⟨b, hb, bs, hbs, rfl⟩ := h
  match i with
  | 0 => simp at hx; subst hx; simpa using hb.symm
  | i + 1 => simpa using Z7 hbs (i := i) (x := x) (by simpa using hx)
theorem F3 {α β : Type} {f : α -> Option β} : ∀ {l : List α} {r : List β}, l.mapM f = some r -> r.length = l.length
 | [], r, h => by simp at h; subst h; rfl
 | y :: l, r, h => by
  simp only [List.mapM_cons, Option.bind_eq_bind, Option.bind_eq_some_iff, Option.pure_def, Option.some.injEq] at h
  obtain ⟨b, hb, bs, hbs, rfl⟩ := h
  simpa using F3 hbs
theorem c5u (h : St w0 okA ext N s a w E) {t : TypeId} {z : List Value} {parts : Array (Nat × Operand)} {ps : List (Nat × Nat × Opd)} (hz : T4 P t = some z)
  (hps : parts.toList.mapM (fun p => match L3 P t p.1, opd p.2 with
   | some f, some x => (P.info? f.type).map fun i => (f.offset, i.size, x)
   | _, _ => none) = some ps) {places : List (Nat × Nat)} (hpl : a4m P t = some places)
  (ho : o.op = .build t parts) (hd : ∀ k, o.dst = some k -> k < N) (hK : q6 (c9 o.dst (.build z ps) s) (n7 w0 okA ext N K)) : o.wp P a w K Q := by
 obtain ⟨iz, vz, hiz, hvz, hzc, hones⟩ := a3g hz
 unfold a4m at hpl
 split at hpl
 case h_2 => cases hpl
 rename_i fs hus
 simp only [c9] at hK
 have hat : ∀ (k : Nat) (f : Field) (i : TypeInfo), fs[k]? = some f -> P.info? f.type = some i -> places[k]? = some (f.offset, i.size) := fun k f i hf hi => by
  have := Z7 hpl (i := k) (x := f) (by simpa using hf)
  grind
 let place : Nat -> Option (Nat × Nat) := fun k => places[k]?
 have key : ∀ (l : List (Nat × Operand)) (ps : List (Nat × Nat × Opd)) (cs : List Cel) (cells : Array Value) (out : List Cel), CsRel w (okE w0 okA E) w0.heap.size E cs cells.toList ->
   l.mapM (fun p => match L3 P t p.1, opd p.2 with
    | some f, some x => (P.info? f.type).map fun i => (f.offset, i.size, x)
    | _, _ => none) = some ps ->
   ps.foldl (fun acc p => match acc, t6 (s.ev p.2.2) with
    | some cs, some news => if news.length = p.2.1 ∧ p.1 + p.2.1 <= cs.length then some (wr cs p.1 news) else none
    | _, _ => none) (some cs) = some out ->
   ∃ cells', Instr.fill place cells (l.map fun p => (p.1, a.eval p.2)) = some cells' ∧ CsRel w (okE w0 okA E) w0.heap.size E out cells'.toList := by
  intro l
  induction l with
  | nil => intro ps cs cells out hc h1 h2; simp at h1; subst h1; simp at h2; subst h2; exact ⟨cells, rfl, hc⟩
  | cons p l ih =>
   intro ps cs cells out hc h1 h2
   simp only [List.mapM_cons, Option.bind_eq_bind, Option.bind_eq_some_iff, Option.pure_def, Option.some.injEq] at h1
   obtain ⟨q, hq, qs, hqs, rfl⟩ := h1
   split at hq
   ·rename_i f x hf hx
    simp only [Option.map_eq_some_iff] at hq
    obtain ⟨i, hi, rfl⟩ := hq
    simp only [List.foldl_cons] at h2
    cases hv : t6 (s.ev x) with
    | none =>
     rw [hv] at h2
     have : ∀ (l : List (Nat × Nat × Opd)), l.foldl (fun acc p => match acc, t6 (s.ev p.2.2) with
      | some cs, some news => if news.length = p.2.1 ∧ p.1 + p.2.1 <= cs.length then some (wr cs p.1 news) else none
      | _, _ => none) (none : Option (List Cel)) = none := by
      intro l; induction l with
      | nil => rfl
      | cons y l ih => simpa using ih
     simp only [this] at h2; cases h2
    | some news =>
     rw [hv] at h2
     simp only [] at h2
     by_cases hcond : news.length = i.size ∧ f.offset + i.size <= cs.length
     ·rw [if_pos hcond] at h2
      have hr := (l5 h hx).cells hv
      have hfs : fs[p.1]? = some f := by
       unfold L3 at hf; rw [hus] at hf; exact hf
      have hsz : (a.eval p.2).cells.size = i.size := by have := hr.1; simp at this; omega
      have hcl : cs.length = cells.size := by simpa using hc.1
      have hfill := a4L (place := place) (cells := cells) (i := p.1) (off := f.offset) (size := i.size) (v := a.eval p.2) (rest := l.map fun p => (p.1, a.eval p.2)) (hat _ _ _ hfs hi) hsz (by omega)
      obtain ⟨cells', h3, h4⟩ := ih qs _ (wr cells.toList f.offset (a.eval p.2).cells.toList).toArray out (by simpa using hc.wr hr) hqs h2
      exact ⟨cells', by rw [List.map_cons, hfill]; exact h3, h4⟩
     ·rw [if_neg hcond] at h2
      have : ∀ (l : List (Nat × Nat × Opd)), l.foldl (fun acc p => match acc, t6 (s.ev p.2.2) with
       | some cs, some news => if news.length = p.2.1 ∧ p.1 + p.2.1 <= cs.length then some (wr cs p.1 news) else none
       | _, _ => none) (none : Option (List Cel)) = none := by
       intro l; induction l with
       | nil => rfl
       | cons y l ih => simpa using ih
      simp only [this] at h2; cases h2
   ·cases hq
 split at hK
 ·rename_i out hout
  obtain ⟨cells', h3, h4⟩ := key parts.toList ps (z.map .g) vz.cells out (by rw [hzc]; exact CsRel.gs z hones) hps hout
  refine f9 (v := .agg cells') (w' := w) ?_ (hK _ _ E (h.put (by simpa using VRel.ag h4) hd))
  have hb : P.built t ((parts.map fun (i, x) => (i, a.eval x)).toList) = some cells' := by
   unfold Program.built
   have h5 : (parts.map fun (i, x) => (i, a.eval x)).toList = parts.toList.map fun p => (p.1, a.eval p.2) := by simp
   rw [h5]
   simp only [hiz, hus, hvz, hpl]
   simpa [place] using h3
  simp only [execOp, ho, Sem.run_bind, run_build w t _ cells' hb, Result.andThen_ok]
  rfl
 ·exact hK.elim
theorem b0D {α β : Type} (f : α -> β) : ∀ (l : List (Nat × α)) (st : Nat), l.map (·.1) = List.range' st l.length -> l.map (fun p => (p.1, f p.2)) = (List.range' st (l.map fun p => f p.2).length).zip (l.map fun p => f p.2)
 | [], _, _ => by simp
 | p :: l, st, h => by
  grind
theorem a9o (z : Nat) : ∀ (vs : List Value) (k : Nat) (cells : Array Value), (∀ v ∈ vs, v.cells.size = z) -> cells.size = (k + vs.length) * z ->
  Instr.fill (fun i => some (i * z, z)) cells ((List.range' k vs.length).zip vs) = some (cells.toList.take (k * z) ++ (vs.map fun v => v.cells.toList).flatten).toArray
 | [], k, cells, _, hs => by
  simp at hs
  have h9 : cells.toList.take (k * z) = cells.toList := List.take_of_length_le (by simp; omega)
  simp [Instr.fill, h9]
 | v :: vs, k, cells, hv, hs => by
  have hz : v.cells.size = z := hv v (by simp)
  have h1 : k * z + z + vs.length * z = cells.size := by rw [hs]; simp only [List.length_cons, Nat.add_mul]; omega
  simp only [List.length_cons, List.range'_succ, List.zip_cons_cons]
  rw [a4L (off := k * z) (size := z) rfl hz (by omega), a9o z vs (k + 1) _ (fun v h => hv v (by simp [h])) (by simp [wr, hz]; rw [Nat.add_mul, Nat.add_mul]; omega)]
  congr 2
  have h2 : v.cells.toList.length = z := by simpa using hz
  rw [wr, List.take_append_of_le_length (by simp [hz]; rw [Nat.add_mul]; omega), List.take_of_length_le (by simp [hz]; rw [Nat.add_mul]; omega)]
  simp
theorem a0n {α : Type} {ok : Nat -> Prop} {base : Nat} : ∀ (l : List α) (es : List (List Cel)) (f : α -> List Value), es.length = l.length -> (∀ (k : Nat) (p : α), l[k]? = some p -> ∃ x, es[k]? = some x ∧ RRel w ok base x (f p)) -> RRel w ok base es.flatten (l.map f).flatten
 | [], [], f, _, _ => .nil
 | [], _ :: _, _, h, _ => by simp at h
 | _ :: _, [], _, h, _ => by simp at h
 | p :: l, x :: es, f, hl, h => by
  obtain ⟨x', h1, h2⟩ := h 0 p rfl
  simp only [List.getElem?_cons_zero, Option.some.injEq] at h1; subst h1
  simp only [List.flatten_cons, List.map_cons]
  exact h2.append (a0n l es f (by simpa using hl) (fun k p hp => by simpa using h (k + 1) p (by simpa using hp)))
theorem b6y (h : St w0 okA ext N s a w E) {t e : TypeId} {i : TypeInfo} {len : Nat} {parts : Array (Nat × Operand)} {ps : List Opd} (hu : P.underlying t = some (.slice e)) (hi : P.info? e = some i) (hps : parts.toList.mapM (fun p => opd p.2) = some ps)
  (hidx : parts.toList.map (·.1) = List.range len) (hz0 : 0 < i.size) (hsm : len * i.size <= 16777216) (hl0 : 0 < len) (hzero : (i.zero.map (·.cells.size)) = some i.size)
  (ho : o.op = .buildSlice t len parts) (hd : ∀ k, o.dst = some k -> k < N) (hK : q6 (c9 o.dst (.bslice i.size len ps) s) (n7 w0 okA ext N K)) : o.wp P a w K Q := by
 simp only [c9] at hK
 split at hK
 ·rename_i es hes
  split at hK
  ·rename_i hcond
   simp only [Bool.and_eq_true, List.all_eq_true, decide_eq_true_eq] at hcond
   obtain ⟨hall, hlen⟩ := hcond
   have hplen : parts.toList.length = len := by have := F3 hps; omega
   have heslen : es.length = len := by have := F3 hes; omega
   -- each part's cells
   have hpart : ∀ (k : Nat) (p : Nat × Operand), parts.toList[k]? = some p -> ∃ x : List Cel, es[k]? = some x ∧ RRel w (okE w0 okA E) w0.heap.size x (a.eval p.2).cells.toList ∧ x.length = i.size := fun k p hp => by
    have h1 := Z7 hps hp
    have hk : k < ps.length := by have := (List.getElem?_eq_some_iff.1 hp).1; have := F3 hps; omega
    have h2 : ps[k]? = some ps[k] := List.getElem?_eq_getElem hk
    have h3 := Z7 hes h2
    have hk' : k < es.length := by have := F3 hes; omega
    have h4 : es[k]? = some es[k] := List.getElem?_eq_getElem hk'
    rw [h4] at h3
    have h5 := (l5 h (h1.symm.trans h2)).cells h3.symm
    have h6 := hall es[k] (List.getElem_mem _)
    exact ⟨es[k], h4, RRel.of h5 h6.2, h6.1⟩
   have hrow : Y5 i.size es := fun x hx => by
    grind
   generalize hvs : (parts.toList.map fun p => (a.eval p.2).cells.toList).flatten = vs
   have hrel0 : RRel w (okE w0 okA E) w0.heap.size es.flatten vs := by
    subst hvs
    exact a0n parts.toList es (fun p => (a.eval p.2).cells.toList) (by omega) (fun k p hp => by obtain ⟨x, h1, h2, _⟩ := hpart k p hp; exact ⟨x, h1, h2⟩)
   obtain ⟨zv, hzv, hzs⟩ : ∃ zv, i.zero = some zv ∧ zv.cells.size = i.size := by
    cases hzz : i.zero with
    | none => rw [hzz] at hzero; cases hzero
    | some zv => rw [hzz] at hzero; exact ⟨zv, rfl, by simpa using hzero⟩
   have hzip : (parts.map fun (p : Nat × Operand) => (p.1, a.eval p.2)).toList = (List.range' 0 (parts.toList.map fun p => a.eval p.2).length).zip (parts.toList.map fun p => a.eval p.2) := by
    rw [Array.toList_map]
    exact b0D a.eval parts.toList 0 (by rw [hidx, hplen, List.range_eq_range'])
   have hfill := a9o i.size (parts.toList.map fun p => a.eval p.2) 0 ((Array.range (len * i.size)).map (zv.cells[· % zv.cells.size]!)) (fun v hv => by
    simp only [List.mem_map] at hv
    obtain ⟨p, hp, rfl⟩ := hv
    obtain ⟨k, hk⟩ := List.getElem?_of_mem hp
    obtain ⟨x, _, h2, h3⟩ := hpart k p hk
    have := h2.1; simp at this; omega) (by simp [hplen])
   rw [<- hzip] at hfill
   simp only [Nat.zero_mul, List.take_zero, List.nil_append, List.map_map] at hfill
   have hrun : (execOp a.eval o).run P w = .ok (.value (.slice (some ⟨w.heap.size, 0, none⟩) len len)) (w.alloc (.cells vs.toArray e)) := by
    have h3 : ((fun v : Value => v.cells.toList) ∘ fun p : Nat × Operand => a.eval p.2) = fun p => (a.eval p.2).cells.toList := rfl
    rw [h3, hvs] at hfill
    have h4 : ¬ (len * i.size > 2 ^ 24) := by simp; omega
    have h5 : ¬ (len * i.size = 0) := by
     intro h0; rcases Nat.mul_eq_zero.1 h0 with h | h <;> omega
    simp only [execOp, ho]
    rw [Array.toList_map] at hfill
    have h6 : ¬ (2 ^ 24 < len * i.size) := h4
    simp [Instr.buildSlice, run_underlying hu, sizeOf, typeInfo, hi, zeroValue, hzv, newRow, newObj]
    rw [if_neg (by simpa using h6), if_neg h5, hfill]
    simp [Sem.run]
   have hgr : w.grownBy (w.alloc (.cells vs.toArray e)) none := World.grownBy_alloc w _ _
   have hst := h.grown hgr
   refine f9 hrun (hK _ _ E (hst.put (.one ?_) hd))
   have hvl : vs.length = len * i.size := by rw [<- hrel0.1, C4 hrow, heslen]
   have hrel1 : RRel (w.alloc (.cells vs.toArray e)) (okE w0 okA E) w0.heap.size es.flatten vs := hrel0.move (.of_grown hgr) (fun _ _ h => h) (Nat.le_refl _)
   have hown : (w.alloc (.cells vs.toArray e)).ownsRow 0 e i.size (.slice (some ⟨w.heap.size, 0, none⟩) len len) len vs :=
    ⟨hvl, .inr ⟨w.heap.size, len, vs.toArray, rfl, Nat.zero_le _, heap_alloc_new w _, Nat.le_refl _, by simp only [maxLen]; have : len <= len * i.size := Nat.le_mul_of_pos_right _ hz0; omega, by simpa using hvl, by rw [<- hvl]; simp⟩⟩
   exact (b2i hrow hown heslen.symm hrel1 (fun b hb => by
    simp only [u6, Value.ownBlock, Option.some.injEq] at hb; subst hb
    exact ⟨h.frame.size, fun k hk => by have := h.glt hk; omega, fun k ver z u hk hb => by have := h.rlt hk hb; omega, .inl h.frame.size⟩)).toC
  ·exact hK.elim
 ·exact hK.elim
end
end Go.Ai
namespace Go.Ai
open Go
section
variable {P : Program} {w0 w w' : World} {okA okD : Nat -> Prop} {base : Nat} {ext : Ext} {N : Nat} {s : AS} {a : Act} {E : Env} {o : Oper} {K : Act -> World -> Prop} {Q : Exit -> Act -> World -> Prop}
theorem a1b (base : Nat) (t ty e : TypeId) (i : TypeInfo) (size : Nat) (ht : P.underlying t = some (.slice e)) (hi : P.info? e = some i)
  (v : Value) (n : Nat) (xs : List Value) (hown : w.ownsRow base e size v n xs) (A : Option Addr) (c : Nat) : (Builtin.append_ #[t, t] ty #[v, .slice A 0 c]).run P w = .ok v w := by
 have h0 : ∀ A : Option Addr, (Builtin.firstCells i.size 0 (.slice A 0 c)).run P w = .ok #[] w := fun A => by
  cases A <;> simp [Builtin.firstCells, loadCells, loadCellsFrom]
 rcases hown.2 with ⟨rfl, rfl⟩ | ⟨g, cap, cur, rfl, _, _, hnc, _⟩
 ·simp [Builtin.append_, run_underlying ht, sizeOf, typeInfo, hi, Builtin.lenOf, h0]
 ·simp [Builtin.append_, run_underlying ht, sizeOf, typeInfo, hi, Builtin.lenOf, h0, hnc, storeCells]
def d0c (w : World) (ok : Nat -> Prop) (base z : Nat) (es : List (List Cel)) (v : Value) : Prop :=
 Y5 z es ∧ ∃ (A : Option Addr) (c : Nat) (us : List Value), v = .slice A es.length c ∧ RRel w ok base es.flatten us ∧ (es.length = 0 ∨ ∃ b off, A = some ⟨b, off, none⟩ ∧ ∀ j u, us[j]? = some u -> w.cell? ⟨b, off + j, none⟩ = some u)
theorem b2u {ok : Nat -> Prop} {c : Cel} {v : Value} (h : DRel w ok c v) : c.dat.isD = true ∧ CRel0 w ok base Env.none c.dat v := by
 cases h with
 | g hv => exact ⟨rfl, rfl, hv⟩
 | any hv => exact ⟨rfl, hv⟩
 | nil => exact ⟨rfl, DRel.nil⟩
 | sl us h1 h2 h3 h4 h5 h6 h7 => exact ⟨rfl, DRel.sl us h1 h2 h3 h4 h5 h6 h7⟩
 | fm cs h1 h2 h3 h4 h5 h6 => exact ⟨rfl, DRel.fm cs h1 h2 h3 h4 h5 h6⟩
theorem c4S {ok : Nat -> Prop} {c : Cel} {v : Value} (h : DRel w (fun b => base <= b ∧ ok b) c v) : c.tof.isD = true ∧ CRel0 w ok base Env.none c.tof v := by
 cases h with
 | g hv => exact ⟨rfl, rfl, hv⟩
 | any hv => exact ⟨rfl, hv⟩
 | nil => exact ⟨rfl, DRel.nil⟩
 | sl us h1 h2 h3 h4 h5 h6 h7 => exact ⟨rfl, DRel.sl us h1 h2 h3 h4 h5 h6 h7⟩
 | fm cs h1 h2 h3 h4 h5 h6 => exact ⟨rfl, DRel.keep (DRel.fm cs h1 h2 h3 h4 h5 h6) (.refl _ w) (fun b _ h => h.2)⟩
theorem a7S {ok : Nat -> Prop} {fr : Bool} {z : Nat} {es : List (List Cel)} {v : Value} (f : Cel -> Cel) (hf : ∀ {c v}, DRel w okD c v -> (f c).isD = true ∧ CRel0 w ok base Env.none (f c) v) (h : DRel w okD (.sl fr z es) v) :
  d0c w ok base z (es.map (List.map f)) v := by
 cases h with
 | @nil _ _ A c => exact ⟨fun e he => by simp at he, A, c, [], rfl, .nil, .inl rfl⟩
 | @sl _ _ _ b off n c us hn hc hb hlt hz hcell hrel =>
  have hro : Y5 z (es.map (List.map f)) := fun e he => by
   grind
  have hlen : (es.map (List.map f)).flatten.length = es.length * z := by rw [C4 hro]; simp
  have hat : ∀ {j : Nat} {c : Cel}, (es.map (List.map f)).flatten[j]? = some c -> ∃ i k e x, es[i]? = some e ∧ e[k]? = some x ∧ c = f x ∧ j = i * z + k := fun {j c} hj => by
   obtain ⟨i, k, e, h1, h2, h3⟩ := a1R hro hj
   grind
  refine ⟨hro, some ⟨b, off, none⟩, c, (List.range (es.length * z)).map (fun j => us (j / z) (j % z)), by simp [hn], ⟨by rw [hlen]; simp, fun j c u hj hu => ?_⟩, .inr ⟨b, off, rfl, fun j u hu => ?_⟩⟩
  ·obtain ⟨i, k, e, x, h1, h2, rfl, h3⟩ := hat hj
   have hk : k < z := by have := (List.getElem?_eq_some_iff.1 h2).1; have := hz e (List.mem_of_getElem? h1); omega
   have hlt' : j < es.length * z := by rw [<- hlen]; exact (List.getElem?_eq_some_iff.1 hj).1
   rw [List.getElem?_map, List.getElem?_range hlt'] at hu
   simp only [Option.map_some, Option.some.injEq] at hu
   subst hu
   have e1 : j / z = i := by rw [h3, Nat.mul_comm, Nat.mul_add_div (by omega), Nat.div_eq_of_lt hk]; omega
   have e2 : j % z = k := by rw [h3, Nat.mul_comm, Nat.mul_add_mod, Nat.mod_eq_of_lt hk]
   grind
  ·have hlt' : j < es.length * z := by have := (List.getElem?_eq_some_iff.1 hu).1; simpa using this
   rw [List.getElem?_map, List.getElem?_range hlt'] at hu
   simp only [Option.map_some, Option.some.injEq] at hu
   subst hu
   have hz0 : 0 < z := by rcases Nat.eq_zero_or_pos z with h | h; (subst h; simp at hlt'); exact h
   have hi : j / z < es.length := (Nat.div_lt_iff_lt_mul hz0).2 hlt'
   have hk : j % z < z := Nat.mod_lt _ hz0
   have he : es[j / z]? = some es[j / z] := List.getElem?_eq_getElem hi
   have hel : es[j / z].length = z := hz _ (List.getElem_mem _)
   have hx : es[j / z][j % z]? = some (es[j / z][j % z]'(by omega)) := List.getElem?_eq_getElem (by omega)
   have := hcell _ _ _ _ he hx
   rw [<- this]
   congr 2
   have := Nat.div_add_mod j z
   grind
theorem d1u (h : St w0 okA ext N s a w E) {x : Val} {v : Value} {z : Nat} {es : List (List Cel)} (hx : VRel w (okE w0 okA E) w0.heap.size E x v) (hs : s.src z x = some es) : d0c w (okE w0 okA E) w0.heap.size z es v := by
 unfold AS.src at hs
 split at hs
 ·rename_i fr z' es0
  split at hs
  ·rename_i hz; subst hz
   simp only [Option.some.injEq] at hs; subst hs
   have h1 := u9 hx rfl
   cases fr with
   | false => exact a7S Cel.dat b2u (show DRel w (okE w0 okA E) (.sl false z' es0) v from h1)
   | true => exact a7S Cel.tof c4S (show DRel w (fun b => w0.heap.size <= b ∧ okE w0 okA E b) (.sl true z' es0) v from h1)
  ·cases hs
 ·simp only [Option.some.injEq] at hs; subst hs
  rename_i c
  have := q9 hx rfl
  subst this
  exact ⟨fun e he => by simp at he, none, c, [], rfl, .nil, .inl rfl⟩
 ·rename_i k ver
  split at hs
  ·rename_i r hr
   split at hs
   ·rename_i hcond
    obtain ⟨hver, hz⟩ := hcond
    simp only [Option.some.injEq] at hs; subst hs
    obtain ⟨_, ver', z', u, hm, hle, hu, hzp⟩ := u9 hx rfl
    obtain ⟨_, hro, u', vs, hm', hown, hrel⟩ := h.rwS hr (h.zpos hr hm hzp)
    rw [hm] at hm'
    simp only [Option.some.injEq, Prod.mk.injEq] at hm'
    obtain ⟨rfl, rfl, rfl⟩ := hm'
    rw [hu hver]
    subst hz
    rcases hown.2 with ⟨rfl, h0⟩ | ⟨g, cap, cur, rfl, hb, hg, hnc, hcm, hcs, htake⟩
    ·exact ⟨hro, none, 0, vs, by rw [h0], hrel, .inl h0⟩
    ·refine ⟨hro, some ⟨g, 0, none⟩, cap, vs, rfl, hrel, .inr ⟨g, 0, rfl, fun j u hj => ?_⟩⟩
     have := hown.cells (g := g) rfl _ _ hj
     rw [u7] at this; exact this
   ·cases hs
  ·cases hs
 ·cases hs
theorem b6C (h : St w0 okA ext N s a w E) {t e : TypeId} {i : TypeInfo} {x x' : Operand} {y y' : Opd} (hx : opd x = some y) (hx' : opd x' = some y') (hu : P.underlying t = some (.slice e)) (hi : P.info? e = some i)
  (hzero : (i.zero.map (·.cells.size)) = some i.size)
  (ho : o.op = .call { callee := .builtin .append, args := #[x, x'], argTypes := #[t, t] }) (hd : ∀ k, o.dst = some k -> k < N) (hK : q6 (c9 o.dst (.append e i.size i.bytes y y') s) (n7 w0 okA ext N K)) : o.wp P a w K Q := by
 simp only [c9] at hK
 have hr := l5 h hx
 have hr' := l5 h hx'
 split at hK
 ·rename_i k ver es hv hv'
  split at hK
  ·rename_i r hs
   split at hK
   ·rename_i hcond
    obtain ⟨hver, he, hz⟩ := hcond
    obtain ⟨⟨hby, h63⟩, hK⟩ := hK
    obtain ⟨_, ver', z', u, hm, hle, hu', hzp⟩ := u9 hr hv
    obtain ⟨hzr, hrow, u', vs, hm', hown, hrel⟩ := h.rwS hs (h.zpos hs hm hzp)
    have hm2 := hm
    rw [hm] at hm'
    simp only [Option.some.injEq, Prod.mk.injEq] at hm'
    obtain ⟨rfl, rfl, rfl⟩ := hm'
    have hx1 := hu' hver
    subst he
    obtain ⟨zv, hzv, hzs⟩ : ∃ zv, i.zero = some zv ∧ zv.cells.size = i.size := by
     cases hzz : i.zero with
     | none => rw [hzz] at hzero; cases hzero
     | some zv => rw [hzz] at hzero; exact ⟨zv, rfl, by simpa using hzero⟩
    obtain ⟨hro, A, c, us, hval, hrel', hcells⟩ := d1u h hr' hv'
    rw [hz] at hro
    -- the call, whatever is appended
    have key : ∃ u1 w1, (Builtin.append_ #[t, t] o.type #[u, a.eval x']).run P w = .ok u1 w1 ∧ w1.ownsRow 0 r.E r.z u1 (r.es.length + es.length) (vs ++ us) ∧ w.grownBy w1 (u6 u) ∧
      ((u6 u1) = (u6 u) ∨ (u6 u1) = some w.heap.size) := by
     have hul : us.length = es.length * r.z := by rw [<- hrel'.1, C4 hro]
     rw [hval]
     rcases hcells with h0 | ⟨b, off, rfl, hc⟩
     ·have e1 : us = [] := by apply List.eq_nil_of_length_eq_zero; rw [hul, h0]; simp
      subst e1
      rw [h0]
      refine ⟨u, w, a1b 0 t o.type r.E i r.z hu hi u _ _ hown A c, by simpa using hown, World.grownBy.refl _ _, .inl rfl⟩
     ·obtain ⟨u1, w1, hrun, h2, h3, _, h5⟩ := run_append_own_at (P := P) w 0 t o.type r.E i zv r.z i.bytes hu hi hzv hz rfl (by omega) hzr u _ _ hown ⟨b, off, none⟩ es.length c us hul (fun j uu hj => by
       rw [u7]; exact hc j uu hj) hrel'.ones (by simp only [maxLen]; omega) hby (Nat.zero_le _)
      exact ⟨u1, w1, hrun, h2, by rw [W4 hown]; exact h3, by rw [W4 h2, W4 hown]; exact h5⟩
    obtain ⟨u1, w1, hrun, hown1, hgr1, hat1⟩ := key
    have hst := h.rowTurn (r' := { r with ver := r.ver + 1, es := r.es ++ es }) (u' := u1) (vs' := vs ++ us) hzr hs hm2 rfl (Nat.le_succ _) (fun h => by simp at h) (fun e he => by
     rcases List.mem_append.1 he with h1 | h1
     ·exact hrow e h1
     ·exact hro e h1) hgr1 (by simpa using hown1) (by simpa using hrel.append hrel') hat1
    have hone : u1.oneCell' = true := by
     rcases hown1.2 with ⟨rfl, _⟩ | ⟨g, cap, cur, rfl, _⟩ <;> rfl
    refine f9 (v := u1) (w' := w1) ?_ (hK _ _ _ (hst.put (.one ⟨hone, r.ver + 1, r.z, u1, by simp [j6], Nat.le_refl _, fun _ => rfl, hzr⟩) hd))
    simp [execOp, ho, resolve, invoke, builtin, hx1, hrun]
   ·exact hK.elim
  ·exact hK.elim
 ·exact hK.elim
theorem F0 {e t' : TypeId} {i : TypeInfo} {x y : Opd} {ins : Ins} (h : a7V P e t' i x y = some ins) : ∃ n, ins = .append e 1 1 x (.b n) := by
 unfold a7V at h
 all_goals grind
open Go.Lib in
theorem b8V (b : ByteArray) : a0k (c4g b) = c4g b := by
 unfold a0k c4g
 rw [List.map_map]
 rfl
theorem b9o (b : ByteArray) : (c4g b).length = b.size := by unfold c4g; rw [List.length_map, Array.length_toList]; rfl
/-! ### calls -/
def C8 (c : Cel) : Bool := match c with | .g _ | .sl _ _ _ | .ep _ | .fm _ _ | .any => true | .fn _ caps => caps.all (fun c => match c with | .g _ => true | _ => false) | _ => false
def W9 : Val -> Bool
 | .one c => C8 c
 | .ag cs => cs.all C8
 | .tu _ => true
 | .any => true
def P2 : Val -> Bool
 | .one c => o6 c
 | .ag cs => cs.all o6
 | .tu vs => vs.all fun v => match v with | .one c => o6 c | .ag cs => cs.all o6 | .any => true | .tu _ => false
 | .any => true
def C7 (c : Cel) : Bool := match c with | .g _ | .sl _ _ _ | .ep _ | .fm _ _ | .any => true | _ => false
def M8 : Val -> Bool
 | .one c => C7 c
 | .ag cs => cs.all C7
 | .tu vs => vs.all fun v => match v with | .one c => C7 c | .ag cs => cs.all C7 | .any => true | .tu _ => false
 | .any => true
theorem a4U (h : St w0 okA ext N s a w E) {c : Cel} {v : Value} {ok' : Nat -> Prop} {base' : Nat} {E' : Env} (hc : CRel w (okE w0 okA E) w0.heap.size E c v) (hw : ∀ b, okE w0 okA E b -> ok' b)
  (hrow : ∀ k ver z u b, s.rw k ≠ none -> E.rm k = some (ver, z, u) -> (u6 u) = some b -> ok' b) (hbox : ∀ k g, s.bx k ≠ none -> E.gm k = some g -> ok' g) : CRel w ok' base' E' (s.viewC c) v := by
 have key : ∀ {c}, CRel0 w ok' base' E' c v -> CRel w ok' base' E' c v := fun {c} h => by cases c <;> first | exact h | exact h.elim
 cases c with
 | fn f caps =>
  obtain ⟨us, rfl, hl, hcs⟩ := hc
  refine ⟨us, rfl, by simpa using hl, fun i c u h1 h2 => ?_⟩
  rw [List.getElem?_map] at h1
  cases hi : caps[i]? with
  | none => rw [hi] at h1; cases h1
  | some c0 => rw [hi] at h1; simp at h1; subst h1; exact v8 h (hcs i c0 u hi h2) hw hw hrow hbox
 | g u => exact key (v8 h (base := w0.heap.size) (c := .g u) hc hw hw hrow hbox)
 | sl fr z es => exact key (v8 h (base := w0.heap.size) (c := .sl fr z es) hc hw hw hrow hbox)
 | ep cs => exact key (v8 h (base := w0.heap.size) (c := .ep cs) hc hw hw hrow hbox)
 | bx k off => exact key (v8 h (base := w0.heap.size) (c := .bx k off) hc hw hw hrow hbox)
 | ow k ver => exact key (v8 h (base := w0.heap.size) (c := .ow k ver) hc hw hw hrow hbox)
 | op k ver i off => exact key (v8 h (base := w0.heap.size) (c := .op k ver i off) hc hw hw hrow hbox)
 | os k ver lo => exact key (v8 h (base := w0.heap.size) (c := .os k ver lo) hc hw hw hrow hbox)
 | ws k ver lo hi => exact key (v8 h (base := w0.heap.size) (c := .ws k ver lo hi) hc hw hw hrow hbox)
 | mp k => exact key (v8 h (base := w0.heap.size) (c := .mp k) hc hw hw hrow hbox)
 | fm kc es => exact key (v8 h (base := w0.heap.size) (c := .fm kc es) hc hw hw hrow hbox)
 | any => exact key (v8 h (base := w0.heap.size) (c := .any) hc hw hw hrow hbox)
theorem b1r (h : St w0 okA ext N s a w E) {x : Val} {v : Value} {ok' : Nat -> Prop} {base' : Nat} {E' : Env} (hx : VRel w (okE w0 okA E) w0.heap.size E x v) (hw : ∀ b, okE w0 okA E b -> ok' b)
  (hrow : ∀ k ver z u b, s.rw k ≠ none -> E.rm k = some (ver, z, u) -> (u6 u) = some b -> ok' b) (hbox : ∀ k g, s.bx k ≠ none -> E.gm k = some g -> ok' g) : VRel w ok' base' E' (s.view x) v := by
 cases hx with
 | one h1 => exact .one (a4U h h1 hw hrow hbox)
 | @ag cs us h1 =>
  refine .ag ⟨by simpa using h1.1, fun i c u h2 h3 => ?_⟩
  rw [List.getElem?_map] at h2
  cases hi : cs[i]? with
  | none => rw [hi] at h2; cases h2
  | some c0 => rw [hi] at h2; simp at h2; subst h2; exact a4U h (h1.2 i c0 u hi h3) hw hrow hbox
 | tu => exact .any
 | any => exact .any
theorem a2G {c : Cel} {v : Value} {base' : Nat} {E' : Env} (hc : CRel w (okE w0 okA E) w0.heap.size E c v) (hp : C8 c = true) : CRel w (okE w0 okA E) base' E' (s.viewC c) v := by
 cases c with
 | g u => exact hc
 | sl fr z es =>
  have hd : DRel w (okE w0 okA E) (.sl false z es) v := by
   have h2 : DRel w (okE w0 okA E) (.sl fr z es) v := by
    cases fr with
    | false => exact hc
    | true => exact DRel.keep (ok := fun b => w0.heap.size <= b ∧ okE w0 okA E b) hc (.refl _ w) (fun b _ h => h.2)
   cases h2 with
   | nil => exact .nil
   | sl us h1 h2 h3 h4 h5 h6 h7 => exact .sl us h1 h2 h3 h4 h5 h6 h7
  exact hd
 | ep cs => exact hc
 | any => exact hc
 | fn f caps =>
  obtain ⟨us, rfl, hl, hcs⟩ := hc
  refine ⟨us, rfl, by simpa using hl, fun i c u h1 h2 => ?_⟩
  rw [List.getElem?_map] at h1
  cases hi : caps[i]? with
  | none => rw [hi] at h1; cases h1
  | some c0 =>
   rw [hi] at h1; simp at h1; subst h1
   have h3 := List.all_eq_true.1 hp c0 (List.mem_of_getElem? hi)
   have h4 := hcs i c0 u hi h2
   cases c0 <;> simp at h3
   exact h4
 | bx k off => cases hp
 | ow k ver => cases hp
 | op k ver i off => cases hp
 | os k ver lo => cases hp
 | ws k ver lo hi => cases hp
 | mp k => cases hp
 | fm kc es => exact hc
theorem a1O {cs : List Cel} {us : List Value} {base' : Nat} {E' : Env} (h1 : CsRel w (okE w0 okA E) w0.heap.size E cs us) (hp : cs.all C8 = true) : CsRel w (okE w0 okA E) base' E' (cs.map s.viewC) us := by
 refine ⟨by simpa using h1.1, fun i c u h2 h3 => ?_⟩
 rw [List.getElem?_map] at h2
 cases hi : cs[i]? with
 | none => rw [hi] at h2; cases h2
 | some c0 => rw [hi] at h2; simp at h2; subst h2; exact a2G (h1.2 i c0 u hi h3) (List.all_eq_true.1 hp c0 (List.mem_of_getElem? hi))
theorem a2L {x : Val} {v : Value} {base' : Nat} {E' : Env} (hx : VRel w (okE w0 okA E) w0.heap.size E x v) (hp : W9 x = true) : VRel w (okE w0 okA E) base' E' (s.view x) v := by
 cases hx with
 | one h1 => exact .one (a2G h1 hp)
 | ag h1 => exact .ag (a1O h1 hp)
 | tu => exact .any
 | any => exact .any
theorem Y1 (h : St w0 okA ext N s a w E) {c : Cel} {v : Value} {ok' : Nat -> Prop} (hc : CRel w' ok' w.heap.size Env.none c v) (hok : ∀ b, w.heap.size <= b -> ok' b -> okE w0 okA E b) (hcond : o6 c = true ∨ (C7 c = true ∧ ∀ b, ok' b -> okE w0 okA E b)) :
  CRel w' (okE w0 okA E) w0.heap.size E c v := by
 have hsz := h.frame.size
 cases c with
 | g u => exact hc
 | any => exact hc
 | sl fr z es =>
  cases fr with
  | true => exact DRel.keep (ok := fun b => w.heap.size <= b ∧ ok' b) hc (.refl _ w') (fun b _ hb => ⟨Nat.le_trans hsz hb.1, hok b hb.1 hb.2⟩)
  | false =>
   rcases hcond with h1 | h1
   ·cases h1
   ·exact DRel.keep hc (.refl _ w') (fun b _ hb => h1.2 b hb)
 | ep cs =>
  rcases hcond with h1 | h1
  ·cases h1
  ·obtain ⟨b, off, us, rfl, h2, h3, h4⟩ := hc
   exact ⟨b, off, us, rfl, h1.2 b h2, h3, fun j x hx => ⟨(h4 j x hx).1, (h4 j x hx).2.keep (.refl _ w') (fun b _ hb => h1.2 b hb)⟩⟩
 | bx k off => rcases hcond with h1 | h1 <;> simp [o6, C7] at h1
 | ow k ver => rcases hcond with h1 | h1 <;> simp [o6, C7] at h1
 | op k ver i off => rcases hcond with h1 | h1 <;> simp [o6, C7] at h1
 | os k ver lo => rcases hcond with h1 | h1 <;> simp [o6, C7] at h1
 | ws k ver lo hi => rcases hcond with h1 | h1 <;> simp [o6, C7] at h1
 | mp k => rcases hcond with h1 | h1 <;> simp [o6, C7] at h1
 | fm kc es =>
  rcases hcond with h1 | h1
  ·cases h1
  ·exact DRel.keep hc (.refl _ w') (fun b _ hb => h1.2 b hb)
 | fn f caps => rcases hcond with h1 | h1 <;> simp [o6, C7] at h1
theorem a5C (h : St w0 okA ext N s a w E) {x : Val} {v : Value} {ok' : Nat -> Prop} (hx : VRel w' ok' w.heap.size Env.none x v) (hok : ∀ b, w.heap.size <= b -> ok' b -> okE w0 okA E b) (hcond : P2 x = true ∨ (M8 x = true ∧ ∀ b, ok' b -> okE w0 okA E b)) :
  VRel w' (okE w0 okA E) w0.heap.size E x v := by
 have hag : ∀ {cs us}, CsRel w' ok' w.heap.size Env.none cs us -> (cs.all o6 = true ∨ (cs.all C7 = true ∧ ∀ b, ok' b -> okE w0 okA E b)) -> CsRel w' (okE w0 okA E) w0.heap.size E cs us := fun {cs us} h1 hc =>
  ⟨h1.1, fun i c u h2 h3 => Y1 h (h1.2 i c u h2 h3) hok (hc.imp (fun h => List.all_eq_true.1 h c (List.mem_of_getElem? h2)) (fun h => ⟨List.all_eq_true.1 h.1 c (List.mem_of_getElem? h2), h.2⟩))⟩
 cases hx with
 | one h1 => exact .one (Y1 h h1 hok hcond)
 | ag h1 => exact .ag (hag h1 hcond)
 | @tu vs us hl h1 =>
  refine .tu hl fun i x u h2 h3 => ?_
  have h4 := h1 i x u h2 h3
  have h5 : (match x with | .one c => o6 c = true | .ag cs => cs.all o6 = true | .any => True | .tu _ => False) ∨ ((match x with | .one c => C7 c = true | .ag cs => cs.all C7 = true | .any => True | .tu _ => False) ∧ ∀ b, ok' b -> okE w0 okA E b) := by
   rcases hcond with h6 | h6
   ·have := List.all_eq_true.1 h6 x (List.mem_of_getElem? h2)
    left; cases x <;> simp_all
   ·have := List.all_eq_true.1 h6.1 x (List.mem_of_getElem? h2)
    right; refine ⟨?_, h6.2⟩; cases x <;> simp_all
  cases h4 with
  | one h7 => exact .one (Y1 h h7 hok h5)
  | ag h7 => exact .ag (hag h7 h5)
  | tu => rcases h5 with h5 | h5 <;> simp at h5
  | any => exact .any
 | any => exact .any
theorem St.called (h : St w0 okA ext N s a w E) (hg : w.grownBy w' none) {d : Option Nat} {x : Val} {v : Value} {ok' : Nat -> Prop} (hx : VRel w' ok' w.heap.size Env.none x v)
  (hcond : P2 x = true ∨ (M8 x = true ∧ ∀ b, ok' b -> okE w0 okA E b)) (hd : ∀ k, d = some k -> k < N) : St w0 okA ext N (s.put d x) (a.put d v) w' E := by
 refine (h.grown hg).put (a5C h hx (fun b hb _ => ⟨fun k hk => ?_, fun k ver z u hk hu => ?_, .inl (Nat.le_trans h.frame.size hb)⟩) hcond) hd
 ·have := h.glt hk; omega
 ·have := h.rlt hk hu; omega
end
end Go.Ai
namespace Go.Ai
open Go
theorem a2x : ∀ {ks ls : List KTy} {cs ds : List Cel} {r : Bool}, eqL (ks ++ ls) cs ds = some r ->
  ∃ r1 r2, eqL ks (cs.take ks.length) (ds.take ks.length) = some r1 ∧ eqL ls (cs.drop ks.length) (ds.drop ks.length) = some r2 ∧ r = (r1 && r2)
 | [], ls, cs, ds, r, h => ⟨true, r, rfl, by simpa using h, by simp⟩
 | k :: ks, ls, [], ds, r, h => by simp [eqL] at h
 | k :: ks, ls, c :: cs, [], r, h => by simp [eqL] at h
 | k :: ks, ls, c :: cs, d :: ds, r, h => by
  simp only [List.cons_append, eqL] at h
  cases h1 : eqK k c d with
  | none => rw [h1] at h; cases h
  | some a =>
   rw [h1] at h
   cases h2 : eqL (ks ++ ls) cs ds with
   | none => rw [h2] at h; cases h
   | some b =>
    rw [h2] at h
    simp only [Option.some.injEq] at h
    obtain ⟨r1, r2, h3, h4, h5⟩ := a2x h2
    refine ⟨a && r1, r2, ?_, by simpa using h4, ?_⟩
    ·simp [eqL, h1, h3]
    ·grind
section
variable {P : Program}
def a2a (P : Program) (t : TypeId) (xs : List Value) : Value :=
 match P.underlying t with
 | some (.struct _) => .agg xs.toArray
 | _ => xs.headD .nilIface
theorem a1g {e : TypeId} {i : TypeInfo} {d : TypeDesc} (hu : P.underlying e = some d) (hi : P.info? e = some i) (hk : (∃ fs, d = .struct fs) ∨ d = .bool ∨ (∃ k, d = .int k) ∨ d = .string) {xs : List Value} {off : Nat} (hl : off + i.size <= xs.length) (h1 : (∃ fs, d = .struct fs) ∨ i.size = 1) (w : World) :
  (part e xs.toArray off).run P w = .ok (a2a P e ((xs.drop off).take i.size)) w := by
 rcases hk with ⟨fs, rfl⟩ | rfl | ⟨k, rfl⟩ | rfl
 ·have e1 : xs.toArray.extract off (off + i.size) = ((xs.drop off).take i.size).toArray := by
   apply Array.ext'; simp
  simp [part, isAgg, run_underlying hu, sizeOf, typeInfo, hi, a2a, hu]
 all_goals
  have h2 : i.size = 1 := by rcases h1 with ⟨fs, h1⟩ | h1; (cases h1); exact h1
  have h3 : off < xs.length := by omega
  have h4 : (xs.drop off).take 1 = [xs[off]] := by
   rw [List.drop_eq_getElem_cons h3]; rfl
  simp [part, isAgg, run_underlying hu, a2a, hu, h2, h4, h3]
theorem b2r : ∀ {ks : List KTy} {cs ds : List Cel} {r : Bool}, eqL ks cs ds = some r -> cs.length = ks.length ∧ ds.length = ks.length
 | [], [], [], _, _ => ⟨rfl, rfl⟩
 | [], c :: cs, ds, r, h => by simp [eqL] at h
 | [], [], d :: ds, r, h => by simp [eqL] at h
 | k :: ks, [], ds, r, h => by simp [eqL] at h
 | k :: ks, c :: cs, [], r, h => by simp [eqL] at h
 | k :: ks, c :: cs, d :: ds, r, h => by
  simp only [eqL] at h
  cases h1 : eqK k c d with
  | none => rw [h1] at h; cases h
  | some a =>
   rw [h1] at h
   cases h2 : eqL ks cs ds with
   | none => rw [h2] at h; cases h
   | some b => have := b2r h2; simp [this.1, this.2]
theorem a8N : ∀ (m d : Nat) (t : TypeId) (ks : List KTy) (w : World) (xs ys : List Value) (r : Bool), b0X P m t = some ks -> eqL ks (xs.map .g) (ys.map .g) = some r -> (Op.equalIn (d + m) t (a2a P t xs) (a2a P t ys)).run P w = .ok r w
 | 0, _, _, _, _, _, _, _, h, _ => by simp [b0X] at h
 | m + 1, d, t, ks, w, xs, ys, r, h, he => by
  have fields : ∀ (fs : List Field) (off : Nat) (ls : List KTy) (r : Bool), a5S P (b0X P m) off fs = some ls -> off + ls.length <= xs.length -> off + ls.length <= ys.length -> eqL ls (((xs.drop off).take ls.length).map .g) (((ys.drop off).take ls.length).map .g) = some r ->
    (Op.eqFields (d + m) xs.toArray ys.toArray fs).run P w = .ok r w := by
   intro fs
   induction fs with
   | nil =>
    intro off ls r h1 _ _ h2
    simp only [a5S, Option.some.injEq] at h1; subst h1
    simp [eqL] at h2; subst h2
    simp [Op.eqFields]
   | cons f fs ih =>
    intro off ls r h1 hx hy h2
    simp only [a5S] at h1
    split at h1
    ·rename_i k1 i k2 hk1 hi hk2
     split at h1
     ·rename_i hcond
      obtain ⟨hn, hoff, hsz⟩ := hcond
      injection h1 with h1; subst h1
      obtain ⟨r1, r2, g1, g2, rfl⟩ := a2x h2
      have hcell : P.cellsOf f.type = k1.length := by
       simp [Program.cellsOf, hi, hsz]
      simp only [List.length_append] at hx hy g1 g2
      have p : ∀ zs : List Value, (((zs.drop off).take (k1.length + k2.length)).map Cel.g).take k1.length = ((zs.drop off).take k1.length).map .g := fun zs => by
       rw [<- List.map_take, List.take_take, Nat.min_eq_left (by omega)]
      have q : ∀ zs : List Value, (((zs.drop off).take (k1.length + k2.length)).map Cel.g).drop k1.length = ((zs.drop (off + k1.length)).take k2.length).map .g := fun zs => by
       rw [<- List.map_drop, List.drop_take, List.drop_drop, Nat.add_sub_cancel_left]
      rw [p, p] at g1
      rw [q, q] at g2
      have hu : ∃ dd, P.underlying f.type = some dd ∧ ((∃ fs, dd = .struct fs) ∨ dd = .bool ∨ (∃ k, dd = .int k) ∨ dd = .string) ∧ ((∃ fs, dd = .struct fs) ∨ k1.length = 1) := by
       cases m with
       | zero => simp [b0X] at hk1
       | succ m =>
        simp only [b0X] at hk1
        all_goals grind
      obtain ⟨dd, hu, hkind, hone⟩ := hu
      have hone' : (∃ fs, dd = .struct fs) ∨ i.size = 1 := by rw [hsz]; exact hone
      have pa := a1g hu hi hkind (xs := xs) (off := off) (by omega) hone' w
      have pb := a1g hu hi hkind (xs := ys) (off := off) (by omega) hone' w
      have ih0 := a8N m d f.type k1 w ((xs.drop off).take k1.length) ((ys.drop off).take k1.length) r1 hk1 g1
      have hn' : f.name ≠ "_" := by intro e; rw [e] at hn; simp at hn
      rw [hsz] at pa pb
      simp only [Op.eqFields, hoff, hn', ne_eq, not_false_eq_true, if_true, Sem.run_bind, pa, pb, ih0, Result.andThen_ok]
      cases r1 with
      | false => simp
      | true =>
       grind
     ·cases h1
    ·cases h1
  simp only [b0X] at h
  have hlen := b2r he
  simp only [List.length_map] at hlen
  split at h
  ·rename_i hu
   injection h with h; subst h
   match xs, ys, hlen with
   | [x], [y], _ =>
    simp only [a2a, hu, List.headD]
    simp only [List.map_cons, List.map_nil, eqL] at he
    cases x <;> cases y <;> simp [eqK] at he
    subst he
    rw [<- Nat.add_assoc, run_equalIn_bool w _ t _ _ hu]
    congr 1
  ·rename_i k hu
   injection h with h; subst h
   match xs, ys, hlen with
   | [x], [y], _ =>
    simp only [a2a, hu, List.headD]
    simp only [List.map_cons, List.map_nil, eqL] at he
    have he' : eqK (.i k) (.g x) (.g y) = some r := by
     grind
    cases x <;> cases y <;> simp [eqK] at he'
    rename_i k1 a k2 b _
    obtain ⟨⟨rfl, rfl⟩, rfl⟩ := he'
    rw [<- Nat.add_assoc, run_equalIn_int w _ t _ _ a b hu]
    congr 1
  ·rename_i hu
   injection h with h; subst h
   match xs, ys, hlen with
   | [x], [y], _ =>
    simp only [a2a, hu, List.headD]
    simp only [List.map_cons, List.map_nil, eqL] at he
    cases x <;> cases y <;> simp [eqK] at he
    subst he
    rw [<- Nat.add_assoc, run_equalIn_string w _ t _ _ hu]
  ·rename_i fs hu
   split at h
   ·cases h
   ·rename_i hst
    have hf : P.fieldsOf t = fs := by simp [Program.fieldsOf, hu]
    simp only [a2a, hu]
    rw [<- Nat.add_assoc, run_equalIn_struct w _ t _ _ (by rw [hf]; exact hu) (by simpa using hst), hf]
    grind
  ·cases h
variable {w0 w w' : World} {okA : Nat -> Prop} {ext : Ext} {N : Nat} {s : AS} {a : Act} {E : Env} {o : Oper} {K : Act -> World -> Prop} {Q : Exit -> Act -> World -> Prop}
theorem a7w {ok : Nat -> Prop} {base : Nat} : ∀ {ks : List KTy} {cs ds : List Cel} {us vs : List Value} {r : Bool}, eqL ks cs ds = some r -> (∀ k ∈ ks, (match k with | .i _ | .b | .s => True | _ => False)) -> CsRel w ok base E cs us -> CsRel w ok base E ds vs -> cs = us.map .g ∧ ds = vs.map .g
 | [], [], [], us, vs, r, _, _, h1, h2 => by
  have e1 : us = [] := by have := h1.1; cases us; rfl; simp at this
  have e2 : vs = [] := by have := h2.1; cases vs; rfl; simp at this
  subst e1; subst e2; simp
 | [], c :: cs, ds, _, _, r, h, _, _, _ => by simp [eqL] at h
 | [], [], d :: ds, _, _, r, h, _, _, _ => by simp [eqL] at h
 | k :: ks, [], ds, _, _, r, h, _, _, _ => by simp [eqL] at h
 | k :: ks, c :: cs, [], _, _, r, h, _, _, _ => by simp [eqL] at h
 | k :: ks, c :: cs, d :: ds, us, vs, r, h, hk, h1, h2 => by
  simp only [eqL] at h
  match us, vs, h1, h2 with
  | [], _, h1, _ => have := h1.1; simp at this
  | _ :: _, [], _, h2 => have := h2.1; simp at this
  | u :: us, v :: vs, h1, h2 =>
   cases g1 : eqK k c d with
   | none => rw [g1] at h; cases h
   | some a =>
    rw [g1] at h
    cases g2 : eqL ks cs ds with
    | none => rw [g2] at h; cases h
    | some b =>
     have t1 : CsRel w ok base E cs us := ⟨by simpa using h1.1, fun i c u hc hu => h1.2 (i + 1) c u (by simpa using hc) (by simpa using hu)⟩
     have t2 : CsRel w ok base E ds vs := ⟨by simpa using h2.1, fun i c u hc hu => h2.2 (i + 1) c u (by simpa using hc) (by simpa using hu)⟩
     obtain ⟨e1, e2⟩ := a7w g2 (fun k hk' => hk k (by simp [hk'])) t1 t2
     have hc := h1.2 0 c u rfl rfl
     have hd := h2.2 0 d v rfl rfl
     have hk0 := hk k (by simp)
     subst e1; subst e2
     have key : (∃ x, c = .g x) ∧ (∃ y, d = .g y) := by
      cases k <;> simp at hk0 <;> (unfold eqK at g1; split at g1 <;> first | exact ⟨⟨_, rfl⟩, ⟨_, rfl⟩⟩ | (simp_all; done) | (rename_i h; cases h))
     obtain ⟨⟨x, rfl⟩, ⟨y, rfl⟩⟩ := key
     have ex : u = x := hc.1
     have ey : v = y := hd.1
     subst ex; subst ey
     simp
theorem a3p {k : KTy} {c e : Cel} {b : Bool} (h : eqL [k] [c] [e] = some b) : eqK k c e = some b := by
 simp only [eqL] at h
 grind
theorem b2T {c e : Cel} {r : Bool} (h : eqK .b c e = some r) : ∃ p q, c = .g (.bool p) ∧ e = .g (.bool q) ∧ r = decide (p = q) := by
 unfold eqK at h; split at h <;> simp_all
theorem b0E {c : Cel} {n m : Nat} {b : Bool} (h : eqK .ns c (.g (.slice none n m)) = some b) : (∃ fr z e es, c = .sl fr z (e :: es) ∧ b = false) ∨ (∃ n m, c = .g (.slice none n m) ∧ b = true) := by
 unfold eqK at h; split at h <;> simp_all
theorem b0J {c : Cel} {b : Bool} (h : eqK .np c (.g (.pointer none)) = some b) : (∃ k off, c = .bx k off ∧ b = false) ∨ (∃ cs, c = .ep cs ∧ b = false) ∨ (c = .g (.pointer none) ∧ b = true) := by
 unfold eqK at h; split at h <;> simp_all
theorem a9K {c : Cel} {b : Bool} (h : eqK .ni c (.g .nilIface) = some b) : (c = .g .nilIface ∧ b = true) ∨ (∃ t v, c = .g (.iface t v) ∧ b = false) := by
 unfold eqK at h; split at h <;> simp_all
theorem a4C : ∀ {m : Nat} {t : TypeId} {ks : List KTy}, b0X P m t = some ks -> ∀ k ∈ ks, (match k with | .i _ | .b | .s => True | _ => False)
 | 0, _, _, h => by simp [b0X] at h
 | m + 1, t, ks, h => by
  simp only [b0X] at h
  split at h
  ·grind
  ·grind
  ·grind
  ·split at h
   ·cases h
   ·rename_i fs _ _
    have : ∀ (fs : List Field) (off : Nat) (ls : List KTy), a5S P (b0X P m) off fs = some ls -> ∀ k ∈ ls, (match k with | .i _ | .b | .s => True | _ => False) := by
     intro fs
     induction fs with
     | nil => intro off ls h1; simp only [a5S, Option.some.injEq] at h1; subst h1; simp
     | cons f fs ih =>
      intro off ls h1
      simp only [a5S] at h1
      split at h1
      ·rename_i k1 i k2 hk1 hi hk2
       split at h1
       ·injection h1 with h1; subst h1
        intro k hk
        rcases List.mem_append.1 hk with hk | hk
        ·exact a4C hk1 k hk
        ·exact ih _ _ hk2 k hk
       ·cases h1
      ·cases h1
    exact this fs.toList 0 ks h
  ·cases h
theorem d4k (h : St w0 okA ext N s a w E) {op : BinOp} {t t' : TypeId} {x x' : Operand} {y y' : Opd} {neg agg : Bool} {ks : List KTy} (hx : opd x = some y) (hx' : opd x' = some y') (he : eqIns P op t y' = some (neg, agg, ks)) (ho : o.op = .binOp op t x x' t') (hd : ∀ k, o.dst = some k -> k < N)
  (hK : q6 (c9 o.dst (.eqs neg agg ks y y') s) (n7 w0 okA ext N K)) : o.wp P a w K Q := by
 simp only [c9] at hK
 have hr := l5 h hx
 have hr' := l5 h hx'
 split at hK
 ·rename_i b hb
  -- the comparison itself
  have key : eqIns.eqTy P t y' = some (agg, ks) -> (eqGuard .eql t x x' (a.eval x) (a.eval x')).run P w = .ok () w ∧ (eqGuard .neq t x x' (a.eval x) (a.eval x')).run P w = .ok () w ∧
    (binOp .eql t (a.eval x) (a.eval x')).run P w = .ok (.bool b) w ∧ (binOp .neq t (a.eval x) (a.eval x')).run P w = .ok (.bool (!b)) w := by
   intro hty
   unfold eqIns.eqTy at hty
   generalize hz : y' = z at hty
   split at hty
   ·rename_i hu
    simp only [Option.some.injEq, Prod.mk.injEq] at hty
    obtain ⟨rfl, rfl⟩ := hty
    cases hv : s.ev y <;> cases hv' : s.ev y' <;> rw [hv, hv'] at hb <;> simp only [eqV, Bool.false_eq_true, if_false, reduceCtorEq] at hb
    rename_i c d
    obtain ⟨p, q, rfl, rfl, rfl⟩ := b2T (a3p hb)
    have e1 := q9 hr hv
    have e2 := q9 hr' hv'
    have h3 := fun p q => run_equalIn_bool (P := P) w 9999 t p q hu
    refine ⟨by simp [e1, e2, eqGuard], by simp [e1, e2, eqGuard], ?_, ?_⟩ <;> (simp only [e1, e2, binOp, Op.equal, Op.maxDepth, Sem.run_bind, h3, Result.andThen_ok, Sem.run_pure]; congr 2)
   ·rename_i fs hu
    split at hty
    ·cases hty
    ·rename_i hg
     simp only [Option.map_eq_some_iff, Prod.mk.injEq] at hty
     obtain ⟨ks', hks, rfl, rfl⟩ := hty
     cases hv : s.ev y <;> cases hv' : s.ev y' <;> rw [hv, hv'] at hb <;> simp only [eqV, if_true, reduceCtorEq] at hb
     rename_i cs ds
     obtain ⟨us, e1, r1⟩ := d5r hr hv
     obtain ⟨vs, e2, r2⟩ := d5r hr' hv'
     obtain ⟨rfl, rfl⟩ := a7w hb (a4C hks) r1 r2
     have h3 := a8N 8 9992 t ks' w us vs b hks hb
     simp only [a2a, hu] at h3
     rw [e1, e2]
     refine ⟨run_eqGuard_agg w .eql t x x' _ _ (by simpa using hg), run_eqGuard_agg w .neq t x x' _ _ (by simpa using hg), ?_, ?_⟩
     ·rw [run_eql_struct, h3]; rfl
     ·rw [run_neq_struct, h3]; rfl
   ·rename_i e n' c' hu
    subst hz
    simp only [Option.some.injEq, Prod.mk.injEq] at hty
    obtain ⟨rfl, rfl⟩ := hty
    have hv' : s.ev (.v (.slice none n' c')) = .one (.g (.slice none n' c')) := rfl
    have e2 := q9 hr' hv'
    cases hv : s.ev y <;> rw [hv, hv'] at hb <;> simp only [eqV, Bool.false_eq_true, if_false, reduceCtorEq] at hb
    rename_i c
    rcases b0E (a3p hb) with ⟨fr, z, e, es, rfl, rfl⟩ | ⟨n, m, rfl, rfl⟩
    ·have h1 := u9 hr hv
     have h1' : ∃ ok, DRel w ok (.sl fr z (e :: es)) (a.eval x) := by
      cases fr <;> exact ⟨_, h1⟩
     obtain ⟨ok, h1'⟩ := h1'
     generalize a.eval x = vv at h1' ⊢
     rw [e2]
     cases h1' with
     | @sl _ _ _ bb off n c us _ _ _ _ _ _ _ =>
      have h3 : ∀ d : Nat, (Op.equalIn (d + 1) t (.slice (some ⟨bb, off, none⟩) n c) (.slice none n' c')).run P w = .ok false w := fun d => by simp [Op.equalIn, run_underlying hu]
      refine ⟨by simp [eqGuard], by simp [eqGuard], ?_, ?_⟩ <;> simp [binOp, Op.equal, Op.maxDepth, h3 9999]
    ·have e1 := q9 hr hv
     rw [e1, e2]
     have h3 : ∀ d : Nat, (Op.equalIn (d + 1) t (.slice none n m) (.slice none n' c')).run P w = .ok true w := fun d => by simp [Op.equalIn, run_underlying hu]
     refine ⟨by simp [eqGuard], by simp [eqGuard], ?_, ?_⟩ <;> simp [binOp, Op.equal, Op.maxDepth, h3 9999]
   ·rename_i e hu
    subst hz
    simp only [Option.some.injEq, Prod.mk.injEq] at hty
    obtain ⟨rfl, rfl⟩ := hty
    have hv' : s.ev (.v (.pointer none)) = .one (.g (.pointer none)) := rfl
    have e2 := q9 hr' hv'
    cases hv : s.ev y <;> rw [hv, hv'] at hb <;> simp only [eqV, Bool.false_eq_true, if_false, reduceCtorEq] at hb
    rename_i c
    have h1 := u9 hr hv
    rw [e2]
    have far : ∀ A : Addr, a.eval x = .pointer (some A) -> b = false -> (eqGuard .eql t x x' (a.eval x) (.pointer none)).run P w = .ok () w ∧ (eqGuard .neq t x x' (a.eval x) (.pointer none)).run P w = .ok () w ∧
      (binOp .eql t (a.eval x) (.pointer none)).run P w = .ok (.bool b) w ∧ (binOp .neq t (a.eval x) (.pointer none)).run P w = .ok (.bool (!b)) w := fun A e1 eb => by
     subst eb
     have h3 : ∀ d : Nat, (Op.equalIn (d + 1) t (.pointer (some A)) (.pointer none)).run P w = .ok false w := fun d => by simp [Op.equalIn, run_underlying hu]
     rw [e1]
     refine ⟨by simp [eqGuard], by simp [eqGuard], ?_, ?_⟩ <;> simp [binOp, Op.equal, Op.maxDepth, h3 9999]
    rcases b0J (a3p hb) with ⟨k, off, rfl, hb'⟩ | ⟨cs, rfl, hb'⟩ | ⟨rfl, hb'⟩
    ·obtain ⟨g, _, e1⟩ := h1
     exact far _ e1 hb'
    ·obtain ⟨bb, off, us, e1, _⟩ := h1
     exact far _ e1 hb'
    ·have e1 := q9 hr hv
     subst hb'
     rw [e1]
     have h3 : ∀ d : Nat, (Op.equalIn (d + 1) t (.pointer none) (.pointer none)).run P w = .ok true w := fun d => by simp [Op.equalIn, run_underlying hu]
     refine ⟨by simp [eqGuard], by simp [eqGuard], ?_, ?_⟩ <;> simp [binOp, Op.equal, Op.maxDepth, h3 9999]
   ·rename_i ms hu
    subst hz
    simp only [Option.some.injEq, Prod.mk.injEq] at hty
    obtain ⟨rfl, rfl⟩ := hty
    have hv' : s.ev (.v .nilIface) = .one (.g .nilIface) := rfl
    have e2 := q9 hr' hv'
    cases hv : s.ev y <;> rw [hv, hv'] at hb <;> simp only [eqV, Bool.false_eq_true, if_false, reduceCtorEq] at hb
    rename_i c
    rw [e2]
    have hc' : ∃ v, x' = .const v := by
     cases x' <;> simp [opd] at hx'
     exact ⟨_, rfl⟩
    obtain ⟨cv, rfl⟩ := hc'
    rcases a9K (a3p hb) with ⟨rfl, rfl⟩ | ⟨ti, vi, rfl, rfl⟩
    ·have e1 := q9 hr hv
     rw [e1]
     have h3 : ∀ d : Nat, (Op.equalIn (d + 1) t .nilIface .nilIface).run P w = .ok true w := fun d => by simp [Op.equalIn, run_underlying hu]
     refine ⟨by simp [eqGuard], by simp [eqGuard], ?_, ?_⟩ <;> simp [binOp, Op.equal, Op.maxDepth, h3 9999]
    ·have e1 := q9 hr hv
     rw [e1]
     have h3 : ∀ d : Nat, (Op.equalIn (d + 1) t (.iface ti vi) .nilIface).run P w = .ok false w := fun d => by simp [Op.equalIn, run_underlying hu]
     refine ⟨by simp [eqGuard], by simp [eqGuard], ?_, ?_⟩ <;> simp [binOp, Op.equal, Op.maxDepth, h3 9999]
   ·cases hty
  have hput := h.put (d := o.dst) (v := .bool (if neg then !b else b)) (x := bv (if neg then !b else b)) (.one ⟨rfl, rfl⟩) hd
  unfold eqIns at he
  split at he
  ·simp only [Option.map_eq_some_iff, Prod.mk.injEq] at he
   obtain ⟨⟨g, l⟩, h1, rfl, h2⟩ := he
   simp only [Prod.mk.injEq] at h2
   obtain ⟨rfl, rfl⟩ := h2
   obtain ⟨k1, _, k3, _⟩ := key h1
   refine f9 (v := .bool b) (w' := w) ?_ (hK _ _ E (by simpa using hput))
   simp [execOp, ho, k1, k3]
  ·simp only [Option.map_eq_some_iff, Prod.mk.injEq] at he
   obtain ⟨⟨g, l⟩, h1, rfl, h2⟩ := he
   simp only [Prod.mk.injEq] at h2
   obtain ⟨rfl, rfl⟩ := h2
   obtain ⟨_, k2, _, k4⟩ := key h1
   refine f9 (v := .bool (!b)) (w' := w) ?_ (hK _ _ E (by simpa using hput))
   simp [execOp, ho, k2, k4]
  ·cases he
 ·exact hK.elim
end
end Go.Ai
namespace Go.Ai
open Go
theorem a5T (cells : Array Value) (n z : Nat) (hz : cells.size = z) (hz0 : 0 < z) : ((Array.range (n * z)).map fun i => cells[i % cells.size]!).toList = (List.replicate n cells.toList).flatten := by
 apply List.ext_getElem?
 intro j
 have hro : ∀ e ∈ List.replicate n cells.toList, e.length = z := fun e he => by rw [List.eq_of_mem_replicate he]; simpa using hz
 by_cases hj : j < n * z
 ·have hi : j / z < n := (Nat.div_lt_iff_lt_mul hz0).2 hj
  have hk : j % z < z := Nat.mod_lt _ hz0
  have h1 : (List.replicate n cells.toList)[j / z]? = some cells.toList := by simp [hi]
  have h2 : cells.toList[j % z]? = some (cells[j % z]'(by omega)) := by simp [show j % z < cells.size by omega]
  have h3 : j / z * z + j % z = j := by rw [Nat.mul_comm]; exact Nat.div_add_mod j z
  have h4 : (List.replicate n cells.toList).flatten[j / z * z + j % z]? = some (cells[j % z]'(by omega)) := flatten_at' hro h1 h2
  grind
 ·rw [List.getElem?_eq_none (by simpa using hj), List.getElem?_eq_none (by rw [C4 hro]; simpa using hj)]
where flatten_at' {α : Type} {z : Nat} : ∀ {es : List (List α)}, (∀ e ∈ es, e.length = z) -> ∀ {i j : Nat} {e : List α} {x : α}, es[i]? = some e -> e[j]? = some x -> es.flatten[i * z + j]? = some x
 | [], _, i, j, e, x, he, _ => by simp at he
 | e0 :: es, hz, 0, j, e, x, he, hx => by
  simp at he; subst he
  have hlt : j < e0.length := (List.getElem?_eq_some_iff.1 hx).1
  rw [List.flatten_cons, Nat.zero_mul, Nat.zero_add, List.getElem?_append, if_pos hlt]; exact hx
 | e0 :: es, hz, i + 1, j, e, x, he, hx => by
  simp at he
  have h0 : e0.length = z := hz e0 (by simp)
  have ih := flatten_at' (es := es) (fun e h => hz e (by simp [h])) he hx
  have hge : ¬ (i + 1) * z + j < e0.length := by rw [h0, Nat.add_mul]; omega
  rw [List.flatten_cons, List.getElem?_append, if_neg hge, h0]
  rw [show (i + 1) * z + j - z = i * z + j by rw [Nat.add_mul]; omega]
  exact ih
section
variable {P : Program} {w0 w w' : World} {okA : Nat -> Prop} {ext : Ext} {N : Nat} {s : AS} {a : Act} {E : Env} {o : Oper} {K : Act -> World -> Prop} {Q : Exit -> Act -> World -> Prop}
theorem a2Q {zero : List Value} (h : ∀ u ∈ zero, u.oneCell' = true) {ok : Nat -> Prop} {base : Nat} : ∀ n : Nat, RRel w ok base (List.replicate n (zero.map Cel.g)).flatten (List.replicate n zero).flatten
 | 0 => .nil
 | n + 1 => by
  simp only [List.replicate_succ, List.flatten_cons]
  exact (RRel.of (CsRel.gs (E := Env.none) zero h) (fun c hc => by obtain ⟨v, _, rfl⟩ := List.mem_map.1 hc; rfl)).append (a2Q h n)
theorem d4t (h : St w0 okA ext N s a w E) {t e : TypeId} {i : TypeInfo} {x l : Operand} {y m : Opd} (hx : opd x = some y) (hl : opd l = some m) (hu : P.underlying t = some (.slice e)) (hi : P.info? e = some i)
  (ho : o.op = .slice t x (some l) none none) (hd : ∀ k, o.dst = some k -> k < N) (hK : q6 (c9 o.dst (.sfx i.size y m) s) (n7 w0 okA ext N K)) : o.wp P a w K Q := by
 simp only [c9] at hK
 have hr := l5 h hx
 have hrl := l5 h hl
 split at hK
 ·rename_i k ver k' lo hv hvl
  split at hK
  ·rename_i r hs
   split at hK
   ·rename_i hcond
    obtain ⟨hver, hz⟩ := hcond
    obtain ⟨⟨h0, h1, h2⟩, hK⟩ := hK
    have el := q9 hrl hvl
    obtain ⟨_, ver', z, u, hm, hle, hu', hzp⟩ := u9 hr hv
    obtain ⟨_, _, u', vs, hm', hown, _⟩ := h.rwS hs (h.zpos hs hm hzp)
    have hm2 := hm
    rw [hm] at hm'
    simp only [Option.some.injEq, Prod.mk.injEq] at hm'
    obtain ⟨rfl, rfl, rfl⟩ := hm'
    have hx1 := hu' hver
    rcases hown.2 with ⟨_, h3⟩ | ⟨g, cap, cur, rfl, _, _, hnc, _⟩
    ·omega
    ·have e1 : lo.toNat <= r.es.length := by omega
     have hrun := H4 (P := P) hu hi (a.eval x) (some (a.eval l)) none hx1 hnc (l := lo.toNat) (h := r.es.length) (.inr ⟨k', lo, by rw [el], h0, rfl⟩) (.inl ⟨rfl, rfl⟩) e1 (Nat.le_refl _) w
     refine f9 (v := .slice (if cap = lo.toNat then some ⟨g, 0, none⟩ else (some (⟨g, 0, none⟩ : Addr)).map (·.add (lo.toNat * i.size))) (r.es.length - lo.toNat) (cap - lo.toNat)) (w' := w) ?_ (hK _ _ E (h.put (.one ?_) hd))
     ·simp only [execOp, ho, Option.map_none, Option.map_some, Sem.run_bind, hrun]
      rfl
     ·split
      ·rename_i hcap
       exact ⟨rfl, r.ver, r.z, _, hm2, hle, fun _ => ⟨g, _, cap, _, rfl, e1, rfl, fun hlt => by omega⟩, hzp⟩
      ·refine ⟨rfl, r.ver, r.z, _, hm2, hle, fun _ => ⟨g, _, cap, _, rfl, e1, rfl, fun _ => ?_⟩, hzp⟩
       show (Addr.mk g 0 none).add (lo.toNat * i.size) = _
       rw [u7, Nat.zero_add, hz]
   ·exact hK.elim
  ·exact hK.elim
 ·exact hK.elim
theorem d4z (h : St w0 okA ext N s a w E) {t e : TypeId} {i : TypeInfo} {x l : Operand} {y m : Opd} (hx : opd x = some y) (hl : opd l = some m) (hu : P.underlying t = some (.slice e)) (hi : P.info? e = some i)
  (ho : o.op = .slice t x none (some l) none) (hd : ∀ k, o.dst = some k -> k < N) (hK : q6 (c9 o.dst (.trn i.size y m) s) (n7 w0 okA ext N K)) : o.wp P a w K Q := by
 simp only [c9] at hK
 have hr := l5 h hx
 have hrl := l5 h hl
 split at hK
 ·rename_i k ver k' hh hv hvl
  split at hK
  ·rename_i r hs
   split at hK
   ·rename_i hcond
    obtain ⟨hver, hz⟩ := hcond
    obtain ⟨⟨h0, h1, h2⟩, hK⟩ := hK
    have el := q9 hrl hvl
    obtain ⟨_, ver', z, u, hm, hle, hu', hzp⟩ := u9 hr hv
    obtain ⟨hz0, hrow, u', vs, hm', hown, hrel⟩ := h.rwS hs (h.zpos hs hm hzp)
    have hm2 := hm
    rw [hm] at hm'
    simp only [Option.some.injEq, Prod.mk.injEq] at hm'
    obtain ⟨rfl, rfl, rfl⟩ := hm'
    have hx1 := hu' hver
    have hown' := hown
    rcases hown.2 with ⟨_, h3⟩ | ⟨g, cap, cur, rfl, hb, hcell, hnc, hcm, hcs, htake⟩
    ·omega
    ·have e1 : hh.toNat <= r.es.length := by omega
     have hrun := H4 (P := P) hu hi (a.eval x) none (some (a.eval l)) hx1 hnc (l := 0) (h := hh.toNat) (.inl ⟨rfl, rfl⟩) (.inr ⟨k', hh, by rw [el], h0, rfl⟩) (Nat.zero_le _) e1 w
     have hval : (if cap = 0 then some (⟨g, 0, none⟩ : Addr) else (some (⟨g, 0, none⟩ : Addr)).map (·.add (0 * i.size))) = some ⟨g, 0, none⟩ := by
      split <;> simp [Addr.add]
     have hfl : (r.es.take hh.toNat).flatten = r.es.flatten.take (hh.toNat * r.z) := by
      have h5 : r.es.flatten = (r.es.take hh.toNat).flatten ++ (r.es.drop hh.toNat).flatten := by rw [<- List.flatten_append, List.take_append_drop]
      have h6 : (r.es.take hh.toNat).flatten.length = hh.toNat * r.z := by rw [C4 (fun e he => hrow e (List.mem_of_mem_take he)), List.length_take, Nat.min_eq_left (by omega)]
      grind
     have hle2 : hh.toNat * r.z <= r.es.length * r.z := Nat.mul_le_mul_right _ e1
     have hcz : r.es.length * r.z <= cap * r.z := Nat.mul_le_mul_right _ hnc
     have hvl : vs.length = r.es.length * r.z := hown.1
     have hst := h.rowTurn (r' := { r with ver := r.ver + 1, es := r.es.take hh.toNat }) (u' := .slice (some ⟨g, 0, none⟩) hh.toNat cap) (vs' := vs.take (hh.toNat * r.z)) hz0 hs hm2 rfl (Nat.le_succ _) (fun h => by simp at h) (fun e he => hrow e (List.mem_of_mem_take he)) (World.grownBy.refl _ _)
      ⟨by simp only [List.length_take]; rw [Nat.min_eq_left (by omega), Nat.min_eq_left e1], .inr ⟨g, cap, cur, by simp only [List.length_take, Nat.min_eq_left e1], hb, hcell, by simp only [List.length_take]; omega, hcm, hcs, by simp only [List.length_take, Nat.min_eq_left e1]; rw [<- htake, List.take_take, Nat.min_eq_left hle2]⟩⟩
      (by simp only [hfl]; exact hrel.take _) (.inl rfl)
     refine f9 (v := .slice (some ⟨g, 0, none⟩) hh.toNat cap) (w' := w) ?_ (hK _ _ _ (hst.put (.one ⟨rfl, r.ver + 1, r.z, _, by simp [j6], Nat.le_refl _, fun _ => rfl, hzp⟩) hd))
     rw [hval, Nat.sub_zero, Nat.sub_zero] at hrun
     simp only [execOp, ho, Option.map_none, Option.map_some, Sem.run_bind, hrun]
     rfl
   ·exact hK.elim
  ·exact hK.elim
 ·exact hK.elim
theorem d3u (h : St w0 okA ext N s a w E) {t e : TypeId} {i : TypeInfo} {x : Operand} {y : Opd} {z : List Value} (hx : opd x = some y) (hu : P.underlying t = some (.slice e)) (hi : P.info? e = some i) (hz : T4 P e = some z) (hzl : z.length = i.size)
  (ho : o.op = .call { callee := .builtin .clear, args := #[x], argTypes := #[t] }) (hd : ∀ k, o.dst = some k -> k < N) (hK : q6 (c9 o.dst (.clr e i.size z y) s) (n7 w0 okA ext N K)) : o.wp P a w K Q := by
 simp only [c9] at hK
 have hr := l5 h hx
 obtain ⟨i', zv, hi', hzv, hzc, hone⟩ := a3g hz
 rw [hi] at hi'; injection hi' with hi'; subst hi'
 split at hK
 ·rename_i k ver lo hv
  split at hK
  ·rename_i r hs
   split at hK
   ·rename_i hcond
    obtain ⟨hver, hE, hzz, _⟩ := hcond
    obtain ⟨_, ver', z', u, hm, hle, hu', hzp⟩ := u9 hr hv
    obtain ⟨hz0, hrow, u', vs, hm', hown, hrel⟩ := h.rwS hs (h.zpos hs hm hzp)
    have hm2 := hm
    rw [hm] at hm'
    simp only [Option.some.injEq, Prod.mk.injEq] at hm'
    obtain ⟨rfl, rfl, rfl⟩ := hm'
    obtain ⟨g, n, c, A, hu1, hlo, hx1, hA⟩ := hu' hver
    subst hu1
    rcases hown.2 with ⟨h3, _⟩ | ⟨g', cap, cur, h3, hb, hcell, hnc, hcm, hcs, htake⟩
    ·cases h3
    ·simp only [Value.slice.injEq, Option.some.injEq, Addr.mk.injEq, and_true] at h3
     obtain ⟨rfl, rfl, rfl⟩ := h3
     have hvl : vs.length = r.es.length * r.z := hown.1
     have hlo' : lo <= r.es.length := hlo
     have hcsz : zv.cells.size = r.z := by have := congrArg List.length hzc; simp at this; omega
     by_cases hfull : r.es.length - lo = 0
     ·have hes : { r with es := r.es.take lo ++ List.replicate (r.es.length - lo) (z.map Cel.g) } = r := by
       rw [hfull]; simp [List.take_of_length_le (show r.es.length <= lo by omega)]
      rw [hes] at hK
      have hup : upd s.rw k (some r) = s.rw := by
       funext j
       by_cases hj : j = k
       ·subst hj; rw [j6, hs]
       ·rw [l6 _ _ hj]
      rw [hup] at hK
      refine f9 (v := .tuple #[]) (w' := w) ?_ (hK _ _ E (h.put .any hd))
      rw [hfull] at hx1
      simp [execOp, ho, resolve, invoke, builtin, Builtin.clear_, hx1, run_underlying hu]
     ·have hlt : lo < r.es.length := by omega
      have hA' := hA hlt
      subst hA'
      have hflz : ((Array.range ((r.es.length - lo) * zv.cells.size)).map fun i => zv.cells[i % zv.cells.size]!).toList = (List.replicate (r.es.length - lo) z).flatten := by
       rw [hcsz]
       have := a5T zv.cells (r.es.length - lo) r.z hcsz hz0
       grind
      have hlen : (List.replicate (r.es.length - lo) z).flatten.length = (r.es.length - lo) * r.z := by
       grind
      have hcz : r.es.length * r.z <= c * r.z := Nat.mul_le_mul_right _ hnc
      have hsum : lo * r.z + (r.es.length - lo) * r.z = r.es.length * r.z := by rw [<- Nat.add_mul]; congr 1; omega
      have hst0 := run_storeCells_at (P := P) g (lo * r.z) r.E (List.replicate (r.es.length - lo) z).flatten 0 cur w hcell (by rw [hlen]; omega) (fun v hv => by
       obtain ⟨l, hl, hv'⟩ := List.mem_flatten.1 hv
       rw [List.eq_of_mem_replicate hl] at hv'; exact hone v hv')
      simp only [Nat.add_zero] at hst0
      have hgr := Q6 w g (cur.toList.take (lo * r.z) ++ (List.replicate (r.es.length - lo) z).flatten ++ cur.toList.drop (lo * r.z + (List.replicate (r.es.length - lo) z).flatten.length)).toArray
      have hfl : (r.es.take lo ++ List.replicate (r.es.length - lo) (z.map Cel.g)).flatten = r.es.flatten.take (lo * r.z) ++ (List.replicate (r.es.length - lo) (z.map Cel.g)).flatten := by
       rw [List.flatten_append]
       congr 1
       have h5 : r.es.flatten = (r.es.take lo).flatten ++ (r.es.drop lo).flatten := by rw [<- List.flatten_append, List.take_append_drop]
       have h6 : (r.es.take lo).flatten.length = lo * r.z := by rw [C4 (fun e he => hrow e (List.mem_of_mem_take he)), List.length_take, Nat.min_eq_left (by omega)]
       grind
      have hclen : (r.es.take lo ++ List.replicate (r.es.length - lo) (z.map Cel.g)).length = r.es.length := by simp; omega
      have hst := h.rowTurn (r' := { r with es := r.es.take lo ++ List.replicate (r.es.length - lo) (z.map Cel.g) }) (u' := .slice (some ⟨g, 0, none⟩) r.es.length c) (vs' := vs.take (lo * r.z) ++ (List.replicate (r.es.length - lo) z).flatten) hz0 hs hm2 rfl (Nat.le_refl _) (fun _ => rfl)
       (fun e he => by
        rcases List.mem_append.1 he with h6 | h6
        ·exact hrow e (List.mem_of_mem_take h6)
        ·rw [List.eq_of_mem_replicate h6]; simp; omega) hgr
       ⟨by simp only [hclen, List.length_append, List.length_take, hlen]; rw [Nat.min_eq_left (by omega)]; exact hsum, .inr ⟨g, c, _, by simp only [hclen], hb, setRow_heap w g cur _ _ (0, 0) hcell, by simp only [hclen]; exact hnc, hcm, by
        simp only [List.size_toArray, List.length_append, List.length_take, List.length_drop, hlen, Array.length_toList]; omega, by
        simp only [hclen]
        rw [List.append_assoc, List.take_append]
        have h7 : (cur.toList.take (lo * r.z)).length = lo * r.z := by simp; omega
        rw [List.take_of_length_le (by omega), h7]
        have h8 : r.es.length * r.z - lo * r.z = (r.es.length - lo) * r.z := by omega
        rw [h8, <- hlen, List.take_left']
        ·congr 1
         rw [<- htake, List.take_take, Nat.min_eq_left (by omega)]
        ·rfl⟩⟩
       (by simp only [hfl]; exact (hrel.take _).append (a2Q hone _)) (.inl rfl)
      refine f9 (v := .tuple #[]) (w' := _) ?_ (hK _ _ _ (hst.put .any hd))
      obtain ⟨mm, hmm⟩ : ∃ mm, r.es.length - lo = mm + 1 := ⟨r.es.length - lo - 1, by omega⟩
      have hrunc : (Builtin.clear_ #[t] o.type #[.slice (some ⟨g, lo * r.z, none⟩) (r.es.length - lo) (c - lo)]).run P w = .ok (.tuple #[]) (w.setRow g (cur.toList.take (lo * r.z) ++ (List.replicate (r.es.length - lo) z).flatten ++ cur.toList.drop (lo * r.z + (List.replicate (r.es.length - lo) z).flatten.length)).toArray) := by
       rw [hmm] at hflz hst0 ⊢
       simp only [Builtin.clear_]
       simp [run_underlying hu, zeroValue, typeInfo, hi, hzv, Builtin.zeroCells]
       have hflz' : List.map (fun i => zv.cells[i % zv.cells.size]!) (List.range ((mm + 1) * zv.cells.size)) = (List.replicate (mm + 1) z).flatten := by rw [<- hflz]; simp
       rw [hflz', hst0]
       simp
      simp [execOp, ho, resolve, invoke, builtin, hx1, hrunc]
   ·exact hK.elim
  ·exact hK.elim
 ·exact hK.elim
theorem St.newG (h : St w0 okA ext N s a w E) {w1 : World} (hgr : w.grownBy w1 none) {k : Nat} {r : Row} {u : Value} {c : Cel} {vs : List Value} (hs : s.rw k = none) (hkN : k < N) (hu : u6 u = some w.heap.size) (hro : rowOkZ r.z r.es) (hver : r.ver = 0)
  (hcell : ∀ (E' : Env) (ok : Nat -> Prop) (base : Nat), E'.rm k = some (0, r.z, u) -> CRel w1 ok base E' c u) (hown : owns w1 0 r.E r.z u r.es.length vs) (hrel : RRel w (okE w0 okA E) w0.heap.size r.es.flatten vs) :
  St w0 okA ext N { s with tm := upd s.tm k (.one c), rw := upd s.rw k (some r) } (a.put (some k) u) w1 ⟨E.gm, upd E.rm k (some (0, r.z, u))⟩ := by
 have hEk : E.rm k = none := h.rwn k hs
 have hkeep : Keeps (okE w0 okA E) w w1 := .of_grown hgr
 have hle : EnvLe E ⟨E.gm, upd E.rm k (some (0, r.z, u))⟩ := ⟨fun _ _ h => h, fun j ver z v hj => by
  have e : j ≠ k := by rintro rfl; rw [hEk] at hj; cases hj
  exact ⟨ver, v, by simp only [l6 _ _ e]; exact hj, Nat.le_refl _, fun _ => rfl⟩⟩
 have hrow : ∀ {j ver z' v}, (upd E.rm k (some (0, r.z, u))) j = some (ver, z', v) -> (j = k ∧ (u6 v) = some w.heap.size) ∨ (j ≠ k ∧ E.rm j = some (ver, z', v)) := fun {j ver z' v} hj => by
  by_cases e : j = k
  ·subst e; simp only [j6, Option.some.injEq, Prod.mk.injEq] at hj; exact .inl ⟨rfl, by rw [<- hj.2.2]; exact hu⟩
  ·simp only [l6 _ _ e] at hj; exact .inr ⟨e, hj⟩
 have hokb : ∀ b, b < w.heap.size -> okE w0 okA E b -> okE w0 okA ⟨E.gm, upd E.rm k (some (0, r.z, u))⟩ b := fun b hb ho =>
  ⟨ho.1, fun j ver z' v hj => by
   rcases hrow hj with ⟨_, h1⟩ | ⟨_, h1⟩
   ·grind
   ·exact ho.2.1 j ver z' v h1, ho.2.2⟩
 refine ⟨by simp [Act.put, h.size], h.defers, fun t => ?_, fun j cs hj => ?_, h.bxn, fun j q hq => ?_, fun j hj => ?_, h.ginj, fun j g j' ver z v hj hv' => ?_, fun j ver z v j' ver' z' v' b hj hj' hb hb' => ?_, h.gfr, h.gx, h.nx, fun j ver z' v b hj hb => ?_, fun j z' v hjk hj => ?_, ?_, fun k g hk hg => (h.bt k g hk hg).imp fun cur h1 => h1.imp fun T h1 => ⟨(hgr.block g (Array.getElem?_eq_some_iff.1 h1.1).1 (by simp)).trans h1.1, h1.2⟩⟩
 ·by_cases e : t = k
  ·subst e
   have : (a.put (some t) u).tmps.getD t undef = u := by simp [Act.put, Array.getD, h.size, hkN]
   rw [this]; simp only [j6]
   exact .one (hcell _ _ _ (by simp [j6]))
  ·have : (a.put (some k) u).tmps.getD t undef = a.tmps.getD t undef := by simp [Act.put, Array.getD_eq_getD_getElem?, Ne.symm e]
   rw [this]; simp only [l6 _ _ e]
   exact (h.tm t).move hkeep hokb (Nat.le_refl _) hle
 ·obtain ⟨g, c0, ty', h1, h2, h3⟩ := h.bx j cs hj
  exact ⟨g, c0, ty', h1, (hgr.block g (h.glt h1) (by simp)).trans h2, h3.move hkeep hokb (Nat.le_refl _) hle⟩
 ·by_cases e : j = k
  ·subst e; simp only [j6, Option.some.injEq] at hq; subst hq
   exact ⟨fun _ => hver, hro, _, vs, by simp [j6, hver], hown, hrel.move hkeep hokb (Nat.le_refl _)⟩
  ·simp only [l6 _ _ e] at hq
   obtain ⟨h1, h2, v, vs', h3, h4, h5⟩ := h.rw j q hq
   refine ⟨h1, h2, v, vs', by simp only [l6 _ _ e]; exact h3, ?_, h5.move hkeep hokb (Nat.le_refl _)⟩
   rcases hu : (u6 v) with _ | b
   ·exact h4.kept hgr (.inl hu)
   ·exact h4.kept hgr (.inr (by rw [hu]; simp))
 ·by_cases e : j = k
  ·subst e; simp [j6] at hj
  ·simp only [l6 _ _ e] at hj ⊢; exact h.rwn j hj
 ·rcases hrow hv' with ⟨_, h1⟩ | ⟨_, h1⟩
  ·rw [h1]; intro h2; injection h2 with h2; have := h.glt hj; omega
  ·exact h.gr j g j' ver z v hj h1
 ·rcases hrow hj with ⟨e1, h1⟩ | ⟨_, h1⟩ <;> rcases hrow hj' with ⟨e2, h2⟩ | ⟨_, h2⟩
  ·rw [e1, e2]
  ·rw [h1] at hb; injection hb with hb; have := h.rlt h2 hb'; omega
  ·rw [h2] at hb'; injection hb' with hb'; have := h.rlt h1 hb; omega
  ·exact h.rr j _ _ v j' _ _ v' b h1 h2 hb hb'
 ·rcases hrow hj with ⟨_, h1⟩ | ⟨_, h1⟩
  ·rw [h1] at hb; injection hb with hb; subst hb; exact .inl h.frame.size
  ·exact h.rfr j ver z' v b h1 hb
 ·by_cases e : j = k
  ·have := h.nx; simp only [XK] at hjk; omega
  ·simp only [l6 _ _ e] at hj; exact h.rst j z' v hjk hj
 ·exact ⟨hgr.os.trans h.frame.os, hgr.tape.trans h.frame.tape, hgr.output.trans h.frame.output, Nat.le_trans h.frame.size hgr.size, fun b hb hne => (hgr.block b (Nat.lt_of_lt_of_le hb h.frame.size) (by simp)).trans (h.frame.block b hb hne)⟩
theorem St.newRow (h : St w0 okA ext N s a w E) {w1 : World} (hgr : w.grownBy w1 none) {k c : Nat} {r : Row} {vs : List Value} (hs : s.rw k = none) (hkN : k < N) (hz : 0 < r.z) (hro : Y5 r.z r.es) (hver : r.ver = 0)
  (hown : w1.ownsRow 0 r.E r.z (.slice (some ⟨w.heap.size, 0, none⟩) r.es.length c) r.es.length vs) (hrel : RRel w (okE w0 okA E) w0.heap.size r.es.flatten vs) :
  St w0 okA ext N { s with tm := upd s.tm k (.one (.ow k 0)), rw := upd s.rw k (some r) } (a.put (some k) (.slice (some ⟨w.heap.size, 0, none⟩) r.es.length c)) w1 ⟨E.gm, upd E.rm k (some (0, r.z, .slice (some ⟨w.heap.size, 0, none⟩) r.es.length c))⟩ :=
 h.newG hgr hs hkN rfl (.of hz hro) hver (fun E' ok base he => ⟨rfl, 0, r.z, _, he, Nat.le_refl _, fun _ => rfl, hz⟩) (.inl ⟨hz, hown⟩) hrel
theorem d3V (h : St w0 okA ext N s a w E) {t e : TypeId} {i : TypeInfo} {l lc : Operand} {m mc : Opd} {z : List Value} (hl : opd l = some m) (hlc : opd lc = some mc) (hu : P.underlying t = some (.slice e)) (hi : P.info? e = some i) (hz : T4 P e = some z) (hzl : z.length = i.size)
  (ho : o.op = .makeSlice t l lc) (hd : ∀ k, o.dst = some k -> k < N) (hK : q6 (c9 o.dst (.mkr e i.size i.bytes z m mc) s) (n7 w0 okA ext N K)) : o.wp P a w K Q := by
 have hrl := l5 h hl
 have hrc := l5 h hlc
 obtain ⟨i', zv, hi', hzv, hzc, hone⟩ := a3g hz
 rw [hi] at hi'; injection hi' with hi'; subst hi'
 cases hdst : o.dst with
 | none => rw [hdst] at hK; simp only [c9] at hK; exact hK.elim
 | some k =>
  rw [hdst] at hK
  simp only [c9] at hK
  split at hK
  ·rename_i k' kk mm kk' mm' hk' hv hvc
   injection hk' with hk'; subst hk'
   have el := q9 hrl hv
   have ec := q9 hrc hvc
   split at hK
   ·rename_i hs
    split at hK
    ·rename_i hcond
     obtain ⟨hkx, hz0, _⟩ := hcond
     obtain ⟨⟨h0, hmm, hby, h63⟩, hK⟩ := hK
     subst hmm
     obtain ⟨n, rfl⟩ : ∃ n : Nat, mm' = n := ⟨mm'.toNat, by omega⟩
     obtain ⟨w1, hrun, hown, hgr⟩ := run_make_full (P := P) w 0 t e i zv i.size hu hi hzv rfl kk kk' n (by
      have : ((n * i.bytes : Nat) : Int) <= 281474976710656 := by rw [Int.natCast_mul]; exact hby
      rw [Nat.mul_comm]; omega) (by simp only [maxLen]; omega) (Nat.zero_le _)
     have hcsz : zv.cells.size = i.size := by have := congrArg List.length hzc; simp at this; omega
     have hfl : (madeCells zv.cells (n * i.size)).toList = (List.replicate n z).flatten := by
      have := a5T zv.cells n i.size hcsz hz0
      rw [hzc] at this; exact this
     rw [hfl] at hown
     have hst := h.newRow hgr (k := k) (c := n) (r := ⟨0, e, i.size, List.replicate n (z.map Cel.g)⟩) (vs := (List.replicate n z).flatten) hs (hd k hdst) hz0
      (fun x hx => by rw [List.eq_of_mem_replicate hx]; simp; omega) rfl (by simpa using hown) (a2Q hone n)
     refine f9 (v := .slice (some ⟨w.heap.size, 0, none⟩) n n) (w' := w1) ?_ (by rw [hdst]; simpa using hK _ _ _ hst)
     simp [execOp, ho, el, ec, hrun]
    ·exact hK.elim
   ·exact hK.elim
  ·exact hK.elim
end
end Go.Ai
namespace Go.Ai
open Go
theorem a4R {a b : IntKind} (h : a2n a = a2n b) : a = b := by
 cases a <;> cases b <;> first | rfl | (exact absurd h (by decide))
theorem Y3 (a : IntKind) : a2n a ≠ 0 := by cases a <;> decide
def b5v (c : Nat) : TypeDesc -> Prop
 | .string => c % 16 = 0
 | .int q => c % 16 = a2n q
 | _ => False
theorem a9t {P : Program} {t : TypeId} {z : Nat × Value} (h : O3 P t = some z) : z.1 = 0 ∨ z.1 = 16 := by
 unfold O3 at h
 all_goals grind
theorem a2F (P : Program) (t : TypeId) : P8 P t = 0 ∨ P8 P t = 16 := by
 unfold P8
 cases hz : O3 P t with
 | none => exact .inl rfl
 | some z => exact a9t hz
theorem a8o (a : IntKind) : a2n a < 16 := by cases a <;> decide
theorem a2C {P : Program} {t : TypeId} {p : Nat × TypeId} (h : a1Y P t = some p) : ∃ kt d, P.underlying t = some (.map kt p.2) ∧ P.underlying kt = some d ∧ b5v p.1 d := by
 unfold a1Y at h
 split at h
 ·rename_i kt et hu
  simp only [Option.map_eq_some_iff] at h
  obtain ⟨c, hc, rfl⟩ := h
  have hz := a2F P et
  unfold a2K at hc
  split at hc
  ·rename_i hk; simp only [Option.some.injEq] at hc; subst hc; exact ⟨kt, _, hu, hk, by show (0 + P8 P et) % 16 = 0; omega⟩
  ·rename_i q hk; simp only [Option.some.injEq] at hc; subst hc; exact ⟨kt, _, hu, hk, by show (a2n q + P8 P et) % 16 = a2n q; have := a8o q; omega⟩
  ·cases hc
 ·cases h
theorem b7z {P : Program} {t : TypeId} {p : Nat × TypeId} {z : Nat × Value} (h : a1Y P t = some p) (hz : O3 P p.2 = some z) : (z.1 = 0 ∧ p.1 < 16) ∨ (z.1 = 16 ∧ 16 <= p.1) := by
 unfold a1Y at h
 split at h
 ·rename_i kt et hu
  simp only [Option.map_eq_some_iff] at h
  obtain ⟨c, hc, rfl⟩ := h
  have he : P8 P et = z.1 := by unfold P8; rw [hz]
  have h2 := a2F P et
  have h3 : c < 16 := by
   unfold a2K at hc
   split at hc
   ·grind
   ·rename_i q _; simp only [Option.some.injEq] at hc; have := a8o q; omega
   ·cases hc
  simp only
  omega
 ·cases h
theorem W5 {c : Nat} {k : Value} (h : l8 c k = true) : (∃ s, k = .string s ∧ c % 16 = 0) ∨ ∃ q n, k = .int q n ∧ c % 16 = a2n q := by
 cases k <;> simp [l8] at h
 ·grind
 ·exact .inl ⟨_, rfl, h⟩
theorem c2q {c : Nat} {k : Value} (h : l8 c k = true) : k.oneCell' = true := by
 rcases W5 h with ⟨s, rfl, _⟩ | ⟨q, n, rfl, _⟩ <;> rfl
theorem z7 {c : Nat} {d : TypeDesc} {k : Value} (hd : b5v c d) (h : l8 c k = true) : MapKept.IsKey d k := by
 rcases W5 h with ⟨s, rfl, hc⟩ | ⟨q, n, rfl, hc⟩
 ·cases d <;> simp only [b5v] at hd
  ·exact absurd (hd.symm.trans hc) (Y3 _)
  ·trivial
 ·cases d <;> simp only [b5v] at hd
  ·exact a4R (hc.symm.trans hd)
  ·exact absurd (hc.symm.trans hd) (Y3 _)
theorem a1N {c : Nat} {a b : Value} (ha : l8 c a = true) (hb : l8 c b = true) : a3W a b = true ↔ a = b := by
 rcases W5 ha with ⟨s, rfl, hc⟩ | ⟨q, n, rfl, hc⟩ <;> rcases W5 hb with ⟨s', rfl, h'⟩ | ⟨q', n', rfl, h'⟩
 ·simp [a3W, MapKept.bytes_beq]
 ·exact absurd (h'.symm.trans hc) (Y3 _)
 ·exact absurd (hc.symm.trans h') (Y3 _)
 ·have := a4R (hc.symm.trans h'); subst this
  simp [a3W]
theorem a2V {c : Nat} {d : TypeDesc} {a b : Value} (hd : b5v c d) (ha : l8 c a = true) (hb : l8 c b = true) : Instr.sameNow d a b = some (a3W a b) := by
 obtain ⟨r, h1, h2⟩ := MapKept.sameNow_of_keys (z7 hd ha) (z7 hd hb)
 rw [h1]
 have h3 := a1N ha hb
 grind
def b0G (w : World) (ok : Nat -> Prop) (base c : Nat) : List (List Cel) -> List MapEntry -> Prop
 | [], [] => True
 | e :: es, x :: l => (∃ cv, e = [.g x.key, cv] ∧ (l8 c x.key = true ∧ vOk c x.val) ∧ cv.isD = true ∧ CRel0 w ok base Env.none cv (a0z x.val)) ∧ b0G w ok base c es l
 | _, _ => False
section
variable {w : World} {ok : Nat -> Prop} {base c : Nat}
theorem b4j : ∀ {es : List (List Cel)} {l : List MapEntry}, a9H es -> l.length = es.length -> (∀ x ∈ l, l8 c x.key = true ∧ vOk c x.val) -> RRel w ok base es.flatten (l.map fun x => [x.key, a0z x.val]).flatten -> b0G w ok base c es l
 | [], [], _, _, _, _ => trivial
 | [], x :: l, _, h, _, _ => by simp at h
 | e :: es, [], _, h, _, _ => by simp at h
 | e :: es, x :: l, hm, hl, hk, hr => by
  obtain ⟨k, cv, rfl⟩ := hm e (by simp)
  have h0 := hr.2 0 (.g k) x.key (by simp) (by simp)
  have h1 := hr.2 1 cv (a0z x.val) (by simp) (by simp)
  obtain ⟨h2, _⟩ : x.key = k ∧ k.oneCell' = true := h0.2
  refine ⟨⟨cv, by rw [h2], hk x (by simp), h1⟩, b4j (fun e he => hm e (by simp [he])) (by simpa using hl) (fun y hy => hk y (by simp [hy])) ?_⟩
  have h3 := hr.drop 2
  simpa using h3
theorem a6m : ∀ {es : List (List Cel)} {l : List MapEntry}, b0G w ok base c es l -> a9H es ∧ l.length = es.length ∧ (∀ x ∈ l, l8 c x.key = true ∧ vOk c x.val) ∧ RRel w ok base es.flatten (l.map fun x => [x.key, a0z x.val]).flatten
 | [], [], _ => ⟨fun e he => by simp at he, rfl, fun x hx => by simp at hx, .nil⟩
 | [], x :: l, h => h.elim
 | e :: es, [], h => h.elim
 | e :: es, x :: l, h => by
  obtain ⟨⟨cv, rfl, h1, h2, h3⟩, h4⟩ := h
  obtain ⟨i1, i2, i3, i4⟩ := a6m h4
  refine ⟨fun e he => ?_, by simp [i2], fun y hy => ?_, ?_⟩
  ·rcases List.mem_cons.1 he with rfl | he
   ·exact ⟨_, _, rfl⟩
   ·exact i1 e he
  ·all_goals grind
  ·simp only [List.flatten_cons, List.map_cons]
   refine RRel.append ⟨rfl, fun i c0 u hc hu => ?_⟩ i4
   match i with
   | 0 => simp at hc hu; subst hc; subst hu; exact ⟨rfl, rfl, c2q h1.1⟩
   | 1 => simp at hc hu; subst hc; subst hu; exact ⟨h2, h3⟩
   | i + 2 => simp at hc
theorem a0R {d : TypeDesc} {k : Value} (hd : b5v c d) (hk : l8 c k = true) : ∀ {es : List (List Cel)} {l : List MapEntry}, b0G w ok base c es l -> ∀ i : Nat,
  (Instr.findNow d k l i = some none ∧ Z3 k es = none ∧ ∀ cv v b, cv.isD = true -> CRel0 w ok base Env.none cv (a0z v) -> vOk c v -> b0G w ok base c (a4u k cv es) (l ++ [⟨k, v, b⟩])) ∨
  (∃ j x c0, Instr.findNow d k l i = some (some (i + j, x.val)) ∧ l[j]? = some x ∧ x.key = k ∧ Z3 k es = some c0 ∧ c0.isD = true ∧ CRel0 w ok base Env.none c0 (a0z x.val) ∧ vOk c x.val ∧
   ∀ cv v, cv.isD = true -> CRel0 w ok base Env.none cv (a0z v) -> vOk c v -> b0G w ok base c (a4u k cv es) (l.modify j fun y => { y with key := k, val := v }))
 | [], [], _, i => .inl ⟨rfl, rfl, fun cv v b h1 h2 h0 => ⟨⟨cv, rfl, ⟨hk, h0⟩, h1, h2⟩, trivial⟩⟩
 | [], x :: l, h, _ => h.elim
 | e :: es, [], h, _ => h.elim
 | e :: es, x :: l, h, i => by
  obtain ⟨⟨cv, rfl, h1, h2, h3⟩, h4⟩ := h
  have hs := a2V hd hk h1.1
  cases hq : a3W k x.key with
  | true =>
   rw [hq] at hs
   have he : k = x.key := (a1N hk h1.1).1 hq
   refine .inr ⟨0, x, cv, by simp [Instr.findNow, hs], rfl, he.symm, by simp [Z3, a2U, hq], h2, h3, h1.2, fun cv' v h5 h6 h0 => ?_⟩
   simp only [a4u, a2U, hq, if_true, List.modify_zero_cons]
   exact ⟨⟨cv', rfl, ⟨hk, h0⟩, h5, h6⟩, h4⟩
  | false =>
   rw [hq] at hs
   rcases a0R hd hk h4 (i + 1) with ⟨i1, i2, i3⟩ | ⟨j, x', c0, i1, i2, i3, i4, i5, i6, i8, i7⟩
   ·refine .inl ⟨by simp [Instr.findNow, hs, i1], by simp [Z3, a2U, hq, i2], fun cv' v b h5 h6 h0 => ?_⟩
    simp only [a4u, a2U, hq, List.cons_append]
    exact ⟨⟨cv, rfl, h1, h2, h3⟩, i3 cv' v b h5 h6 h0⟩
   ·refine .inr ⟨j + 1, x', c0, by simp [Instr.findNow, hs, i1]; omega, by simpa using i2, i3, by simp [Z3, a2U, hq, i4], i5, i6, i8, fun cv' v h5 h6 h0 => ?_⟩
    simp only [a4u, a2U, hq, List.modify_succ_cons]
    exact ⟨⟨cv, rfl, h1, h2, h3⟩, i7 cv' v h5 h6 h0⟩
theorem b2N {d : TypeDesc} {k : Value} (hd : b5v c d) (hk : l8 c k = true) : ∀ {es : List (List Cel)} {l : List MapEntry}, b0G w ok base c es l -> ∀ i : Nat,
  (Instr.findNow d k l i = some none ∧ a9E k es = es) ∨ (∃ j v, Instr.findNow d k l i = some (some (i + j, v)) ∧ j < l.length ∧ b0G w ok base c (a9E k es) (l.eraseIdx j))
 | [], [], _, i => .inl ⟨rfl, rfl⟩
 | [], x :: l, h, _ => h.elim
 | e :: es, [], h, _ => h.elim
 | e :: es, x :: l, h, i => by
  obtain ⟨⟨cv, rfl, h1, h2, h3⟩, h4⟩ := h
  have hs := a2V hd hk h1.1
  cases hq : a3W k x.key with
  | true =>
   rw [hq] at hs
   exact .inr ⟨0, x.val, by simp [Instr.findNow, hs], by simp, by simpa [a9E, a2U, hq] using h4⟩
  | false =>
   rw [hq] at hs
   rcases b2N hd hk h4 (i + 1) with ⟨i1, i2⟩ | ⟨j, v, i1, i2, i3⟩
   ·exact .inl ⟨by simp [Instr.findNow, hs, i1], by simp [a9E, a2U, hq, i2]⟩
   ·refine .inr ⟨j + 1, v, by simp [Instr.findNow, hs, i1]; omega, by simp; omega, ?_⟩
    simp only [a9E, a2U, hq, List.eraseIdx_cons_succ]
    exact ⟨⟨cv, rfl, h1, h2, h3⟩, i3⟩
theorem b5s {E : Env} : ∀ {cs : List Cel} {vs us : List Value}, gvs cs = some vs -> CsRel w ok base E cs us -> us = vs ∧ ∀ x ∈ vs, x.oneCell' = true
 | [], vs, us, h, hr => by
  simp only [gvs, Option.some.injEq] at h; subst h
  have h1 : us = [] := List.eq_nil_of_length_eq_zero (by have := hr.1; simpa using this.symm)
  subst h1; simp
 | c :: cs, vs, [], h, hr => by have := hr.1; simp at this
 | c :: cs, vs, u :: us, h, hr => by
  cases c
  case g v =>
   simp only [gvs, Option.map_eq_some_iff] at h
   obtain ⟨vs', h1, rfl⟩ := h
   have h2 := hr.2 0 (.g v) u rfl rfl
   obtain ⟨rfl, h3⟩ : u = v ∧ v.oneCell' = true := h2
   obtain ⟨rfl, h5⟩ := b5s (vs := vs') (us := us) h1 ⟨by have := hr.1; simpa using this, fun i c u' a b => hr.2 (i + 1) c u' (by simpa using a) (by simpa using b)⟩
   all_goals grind
  all_goals (simp [gvs] at h)
theorem c0C {E E' : Env} {x : Val} {v : Value} {cl : Cel} (hr : VRel w ok base E x v) (h : b0u c x = some cl) (hD : cl.isD = true) : CRel0 w ok base E' cl (a0z v) ∧ vOk c v := by
 unfold vOk
 cases hr with
 | one h1 =>
  simp only [b0u] at h
  split at h
  ·rename_i hc
   simp only [Option.some.injEq] at h; subst h
   have h2 := h1.oneC
   rw [if_pos hc, a2Y h2]
   exact ⟨h1.ofD hD, h2⟩
  ·cases h
 | ag h1 =>
  simp only [b0u] at h
  split at h
  ·cases h
  ·rename_i hc
   simp only [Option.map_eq_some_iff] at h
   obtain ⟨vs, h2, rfl⟩ := h
   obtain ⟨rfl, h3⟩ := b5s h2 h1
   rw [if_neg hc]
   exact ⟨⟨rfl, rfl⟩, _, rfl, h3⟩
 | tu => simp [b0u] at h
 | any => simp [b0u] at h
theorem a3h {E : Env} {v : Value} {cl : Cel} (h : CRel0 w ok base E cl (a0z v)) (hv : vOk c v) : VRel w ok base E (a2O c cl) v := by
 unfold vOk at hv
 unfold a2O
 split at hv
 ·rename_i hc
  rw [if_pos hc]
  rw [a2Y hv] at h
  exact .one h.toC
 ·rename_i hc
  rw [if_neg hc]
  obtain ⟨vs, rfl, h1⟩ := hv
  unfold c7r
  split
  ·obtain ⟨h2, _⟩ : a0z (.agg vs.toArray) = _ ∧ _ := h
   simp only [a0z, Value.iface.injEq, Value.agg.injEq] at h2
   obtain ⟨_, rfl⟩ := h2
   exact .ag (CsRel.gs vs h1)
  ·exact .any
end
section
variable {P : Program} {w0 w w' : World} {okA : Nat -> Prop} {ext : Ext} {N : Nat} {s : AS} {a : Act} {E : Env} {o : Oper} {K : Act -> World -> Prop} {Q : Exit -> Act -> World -> Prop}
theorem c8U (h : St w0 okA ext N s a w E) {t : TypeId} {r : Option Operand} {kc : Nat} {kt et : TypeId} (hu : P.underlying t = some (.map kt et)) (hr : r = none ∨ ∃ q n, r = some (.const (.int q n)))
  (ho : o.op = .makeMap t r) (hd : ∀ k, o.dst = some k -> k < N) (hK : q6 (c9 o.dst (.mkm kc) s) (n7 w0 okA ext N K)) : o.wp P a w K Q := by
 cases hdst : o.dst with
 | none => rw [hdst] at hK; simp only [c9] at hK; exact hK.elim
 | some k =>
  rw [hdst] at hK
  simp only [c9] at hK
  split at hK
  ·rename_i hs
   split at hK
   ·have hst := h.newG (w1 := w.alloc (.map #[] 0)) (World.grownBy_alloc w _ none) (k := k) (r := ⟨0, kc, 0, []⟩) (u := .map (some w.heap.size)) (c := .mp k) (vs := []) hs (hd k hdst) rfl ⟨fun h0 => by simp only at h0; omega, fun _ e he => by simp at he⟩ rfl
     (fun E' ok base he => ⟨rfl, 0, _, he, rfl⟩) (.inr ⟨rfl, w.heap.size, #[], 0, rfl, Nat.zero_le _, (MapKept.heap_alloc w _).1, rfl, rfl, fun e he => by simp at he⟩) .nil
    refine f9 (v := .map (some w.heap.size)) (w' := w.alloc (.map #[] 0)) ?_ (by rw [hdst]; exact hK _ _ _ hst)
    rcases hr with rfl | ⟨q, n, rfl⟩
    ·simp [execOp, ho, Instr.makeMap, Result.andThen]
    ·simp [execOp, ho, Instr.makeMap, run_underlying hu, Act.eval, asInt, asIntOf, Result.andThen]
   ·exact hK.elim
  ·exact hK.elim
theorem b2l (h : St w0 okA ext N s a w E) {x : Operand} {y : Opd} {k : Nat} {r : Row} (hx : opd x = some y) (hv : s.ev y = .one (.mp k)) (hs : s.rw k = some r) :
  ∃ b es clock, r.z = 0 ∧ a.eval x = .map (some b) ∧ E.rm k = some (r.ver, r.z, .map (some b)) ∧ r.ver = 0 ∧ w.heap[b]? = some (.map es clock) ∧ b0G w (okE w0 okA E) w0.heap.size r.E r.es es.toList := by
 obtain ⟨_, ver', u, hm, hxu⟩ := u9 (l5 h hx) hv
 obtain ⟨h1, h2, u', vs, hm', hown, hrel⟩ := h.rw k r hs
 rw [hm] at hm'
 simp only [Option.some.injEq, Prod.mk.injEq] at hm'
 obtain ⟨rfl, hz, rfl⟩ := hm'
 rcases hown with ⟨h0, _⟩ | ⟨_, b, es, clock, rfl, _, hb, hsz, rfl, hkeys⟩
 ·omega
 ·exact ⟨b, es, clock, hz.symm, hxu, by rw [hm, <- hz], h1 hz.symm, hb, b4j (h2.2 hz.symm) (by simpa using hsz) hkeys hrel⟩
theorem d2l (h : St w0 okA ext N s a w E) {t kt et : TypeId} {d : TypeDesc} {x kx vx : Operand} {y ky vy : Opd} {kc : Nat} (hx : opd x = some y) (hkx : opd kx = some ky) (hvx : opd vx = some vy)
  (hu : P.underlying t = some (.map kt et)) (hud : P.underlying kt = some d) (hd0 : b5v kc d)
  (ho : o.op = .mapUpdate t x kx vx ∨ o.op = .insert t x kx vx) (hd : ∀ k, o.dst = some k -> k < N) (hK : q6 (c9 o.dst (.mup kc y ky vy) s) (n7 w0 okA ext N K)) : o.wp P a w K Q := by
 simp only [c9] at hK
 split at hK
 ·rename_i k kv c hv hkv hcv
  split at hK
  ·rename_i r hs
   split at hK
   ·rename_i hcond
    obtain ⟨hz, hE, hkey, hD⟩ := hcond
    obtain ⟨b, es, clock, _, hxe, hm, hver, hb, hmr⟩ := b2l h hx hv hs
    have hke := q9 (l5 h hkx) hkv
    obtain ⟨hve', hvo⟩ := c0C (E' := Env.none) (l5 h hvx) hcv hD
    rw [hE] at hmr
    have hlt : b < w.heap.size := (Array.getElem?_eq_some_iff.1 hb).1
    have hrun : ∃ es' clock', (Instr.mapUpdate t (.map (some b)) kv (a.eval vx)).run P w = .ok () { w with heap := w.heap.setIfInBounds b (.map es' clock') } ∧ b0G w (okE w0 okA E) w0.heap.size kc (a4u kv c r.es) es'.toList := by
     rcases a0R hd0 hkey hmr 0 with ⟨i1, i2, i3⟩ | ⟨j, x', c0, i1, i2, i3, i4, i5, i6, i8, i7⟩
     ·refine ⟨es.push ⟨kv, a.eval vx, clock⟩, clock + 1, ?_, by simpa using i3 c (a.eval vx) clock hD hve' hvo⟩
      simp [Instr.mapUpdate, run_underlying hu, MapKept.run_getObj_map hb, MapKept.run_checkKey hud (z7 hd0 hkey), MapKept.run_findKey hud i1, MapKept.run_setObj_map _ hb, Result.andThen]
     ·have hj : es[j]? = some x' := by simpa using i2
      refine ⟨es.modify j fun e => { e with key := kv, val := a.eval vx }, clock, ?_, by simpa using i7 c (a.eval vx) hD hve' hvo⟩
      simp [Instr.mapUpdate, run_underlying hu, MapKept.run_getObj_map hb, MapKept.run_checkKey hud (z7 hd0 hkey), MapKept.run_findKey hud i1, hj, i3, MapKept.run_keyThatStays (z7 hd0 hkey), MapKept.run_setObj_map _ hb, Result.andThen]
    obtain ⟨es', clock', hrun, hmr'⟩ := hrun
    have hgr : w.grownBy { w with heap := w.heap.setIfInBounds b (.map es' clock') } (some b) := ⟨rfl, rfl, rfl, by simp, fun i _ hi => (MapKept.heap_set hb).2 i (fun e => hi (by rw [e]))⟩
    obtain ⟨j1, j2, j3, j4⟩ := a6m hmr'
    have hst := h.rowTurnG (w' := { w with heap := w.heap.setIfInBounds b (.map es' clock') }) (r' := { r with es := a4u kv c r.es }) (u' := .map (some b)) (vs' := (es'.toList.map fun e => [e.key, a0z e.val]).flatten) hs hm rfl (Nat.le_refl _) (fun _ => hver) (fun _ => rfl)
     ⟨fun h0 => by simp only at h0; omega, fun _ => j1⟩ hgr (.inr ⟨hz, b, es', clock', rfl, Nat.zero_le _, (MapKept.heap_set hb).1, by simpa using j2, rfl, by simp only [hE]; exact j3⟩) j4 (.inl rfl)
    refine a4b (w' := { w with heap := w.heap.setIfInBounds b (.map es' clock') }) ?_ (hK _ _ _ (hst.put .any hd))
    rcases ho with ho | ho <;> simp [execOp, ho, hxe, hke, hrun, Result.andThen]
   ·exact hK.elim
  ·exact hK.elim
 ·exact hK.elim
theorem d2R (h : St w0 okA ext N s a w E) {t t2 kt et : TypeId} {d : TypeDesc} {x kx : Operand} {y ky : Opd} {kc : Nat} (hx : opd x = some y) (hkx : opd kx = some ky)
  (hu : P.underlying t = some (.map kt et)) (hud : P.underlying kt = some d) (hd0 : b5v kc d)
  (ho : o.op = .call { callee := .builtin .delete, args := #[x, kx], argTypes := #[t, t2] }) (hd : ∀ k, o.dst = some k -> k < N) (hK : q6 (c9 o.dst (.mdl kc y ky) s) (n7 w0 okA ext N K)) : o.wp P a w K Q := by
 simp only [c9] at hK
 split at hK
 ·rename_i k kv hv hkv
  split at hK
  ·rename_i r hs
   split at hK
   ·rename_i hcond
    obtain ⟨hz, hE, hkey⟩ := hcond
    obtain ⟨b, es, clock, _, hxe, hm, hver, hb, hmr⟩ := b2l h hx hv hs
    have hke := q9 (l5 h hkx) hkv
    rw [hE] at hmr
    have hlt : b < w.heap.size := (Array.getElem?_eq_some_iff.1 hb).1
    have hrun : ∃ es', (Builtin.delete_ #[t, t2] o.type #[.map (some b), kv]).run P w = .ok (.tuple #[]) { w with heap := w.heap.setIfInBounds b (.map es' clock) } ∧ b0G w (okE w0 okA E) w0.heap.size kc (a9E kv r.es) es'.toList := by
     rcases b2N hd0 hkey hmr 0 with ⟨i1, i2⟩ | ⟨j, v, i1, i2, i3⟩
     ·refine ⟨es, ?_, by rw [i2]; exact hmr⟩
      simp [Builtin.delete_, run_underlying hu, MapKept.run_getObj_map hb, MapKept.run_checkKey hud (z7 hd0 hkey), MapKept.run_findKey hud i1, MapKept.run_setObj_map _ hb, Result.andThen]
     ·refine ⟨es.eraseIdxIfInBounds j, ?_, by simpa using i3⟩
      simp [Builtin.delete_, run_underlying hu, MapKept.run_getObj_map hb, MapKept.run_checkKey hud (z7 hd0 hkey), MapKept.run_findKey hud i1, MapKept.run_setObj_map _ hb, Result.andThen]
    obtain ⟨es', hrun, hmr'⟩ := hrun
    have hgr : w.grownBy { w with heap := w.heap.setIfInBounds b (.map es' clock) } (some b) := ⟨rfl, rfl, rfl, by simp, fun i _ hi => (MapKept.heap_set hb).2 i (fun e => hi (by rw [e]))⟩
    obtain ⟨j1, j2, j3, j4⟩ := a6m hmr'
    have hst := h.rowTurnG (w' := { w with heap := w.heap.setIfInBounds b (.map es' clock) }) (r' := { r with es := a9E kv r.es }) (u' := .map (some b)) (vs' := (es'.toList.map fun e => [e.key, a0z e.val]).flatten) hs hm rfl (Nat.le_refl _) (fun _ => hver) (fun _ => rfl)
     ⟨fun h0 => by simp only at h0; omega, fun _ => j1⟩ hgr (.inr ⟨hz, b, es', clock, rfl, Nat.zero_le _, (MapKept.heap_set hb).1, by simpa using j2, rfl, by simp only [hE]; exact j3⟩) j4 (.inl rfl)
    refine f9 (v := .tuple #[]) (w' := { w with heap := w.heap.setIfInBounds b (.map es' clock) }) ?_ (hK _ _ _ (hst.put .any hd))
    simp [execOp, ho, resolve, invoke, builtin, hxe, hke, hrun, Result.andThen]
   ·exact hK.elim
  ·exact hK.elim
 ·exact hK.elim
theorem a1T {t : TypeId} {z : Nat × Value} {kc : Nat} (h : O3 P t = some z) (hk : (z.1 = 0 ∧ kc < 16) ∨ (z.1 = 16 ∧ 16 <= kc)) : ∃ v, (zeroValue t).run P w = .ok v w ∧ z.2 = a0z v ∧ vOk kc v ∧ z.2.oneCell' = true := by
 unfold O3 at h
 split at h
 ·rename_i i hi
  split at h
  ·rename_i cs hv
   split at h
   ·rename_i hone; simp only [Option.some.injEq] at h; subst h
    refine ⟨.agg cs, by simp [zeroValue, typeInfo, hi, hv, Result.andThen], rfl, ?_, rfl⟩
    unfold vOk
    grind
   ·cases h
  ·rename_i v _ hv
   split at h
   ·rename_i hone; simp only [Option.some.injEq] at h; subst h
    refine ⟨v, by simp [zeroValue, typeInfo, hi, hv, Result.andThen], (a2Y hone).symm, ?_, hone⟩
    unfold vOk
    grind
   ·cases h
  ·cases h
 ·cases h
theorem a7L (k : Value) : ∀ es : List (List Cel), O7 k es = Z3 k (F8 es)
 | [] => rfl
 | e :: es => by
  have hm : a2U k (e.map Cel.dat) = a2U k e := by
   cases e with
   | nil => rfl
   | cons c e => cases c <;> rfl
  have h1 : F8 (e :: es) = e.map Cel.dat :: F8 es := rfl
  rw [h1, Z3, O7, hm, a7L k es, List.getElem?_map]
theorem c2Z {ok : Nat -> Prop} {base kc : Nat} {es : List (List Cel)} {v : Value} (h : DRel w ok (.fm kc es) v) :
  ∃ b ms clock, v = .map (some b) ∧ w.heap[b]? = some (.map ms clock) ∧ b0G w ok base kc (F8 es) ms.toList := by
 have key : ∀ (es : List (List Cel)) (l : List MapEntry), es.length = l.length -> (∀ (i : Nat) (e : MapEntry), l[i]? = some e -> (l8 kc e.key = true ∧ vOk kc e.val) ∧ ∃ c0, es[i]? = some [.g e.key, c0] ∧ DRel w ok c0 (a0z e.val)) -> b0G w ok base kc (F8 es) l := fun es => by
  induction es with
  | nil => intro l hl _; cases l with
   | nil => trivial
   | cons x l => simp at hl
  | cons e es ih =>
   intro l hl hx
   cases l with
   | nil => simp at hl
   | cons x l =>
    obtain ⟨h1, c0, h2, h3⟩ := hx 0 x rfl
    simp at h2; subst h2
    have h4 := b2u (base := base) h3
    exact ⟨⟨c0.dat, rfl, h1, h4.1, h4.2⟩, ih l (by simpa using hl) fun i e he => by simpa using hx (i + 1) e (by simpa using he)⟩
 cases h with
 | fm cs h1 h2 h3 h4 h5 h6 => exact ⟨_, _, _, rfl, h3, key es _ (by simpa using h4) fun i e he => ⟨⟨(h5 i e he).1, (h5 i e he).2.2⟩, cs i, (h5 i e he).2.1, h6 i e he⟩⟩
theorem b3J {ok : Nat -> Prop} {base zn : Nat} {z : Value} {E' : Env} (h : z.oneCell' = true) : CRel0 w ok base E' (a0d zn z) z := by
 unfold a0d
 split
 ·split
  ·exact ⟨rfl, h⟩
  ·exact DRel.nil
 ·exact ⟨rfl, h⟩
theorem d3G (h : St w0 okA ext N s a w E) {t kt et : TypeId} {d : TypeDesc} {x kx : Operand} {y ky : Opd} {kc zn : Nat} {ok : Bool} {z : Nat × Value} (hx : opd x = some y) (hkx : opd kx = some ky)
  (hu : P.underlying t = some (.map kt et)) (hud : P.underlying kt = some d) (hd0 : b5v kc d) (hz1 : O3 P et = some z) (hzk : (z.1 = 0 ∧ kc < 16) ∨ (z.1 = 16 ∧ 16 <= kc))
  (ho : o.op = .lookup t x kx ok) (hd : ∀ k, o.dst = some k -> k < N) (hK : q6 (c9 o.dst (.mlk kc z.2 ok zn y ky) s) (n7 w0 okA ext N K)) : o.wp P a w K Q := by
 simp only [c9] at hK
 split at hK
 ·rename_i k kv hv hkv
  split at hK
  ·rename_i r hs
   split at hK
   ·rename_i hcond
    obtain ⟨hz, hE, hkey⟩ := hcond
    obtain ⟨b, es, clock, _, hxe, hm, hver, hb, hmr⟩ := b2l h hx hv hs
    have hke := q9 (l5 h hkx) hkv
    obtain ⟨zv, hzr, hze, hzv, hzo⟩ := a1T (w := w) hz1 hzk
    rw [hE] at hmr
    have hrun : ∃ v, (Instr.lookup t (.map (some b)) kv ok).run P w = .ok (if ok then .tuple #[v, .bool (Z3 kv r.es).isSome] else v) w ∧ VRel w (okE w0 okA E) w0.heap.size E (a2O kc ((Z3 kv r.es).getD (.g z.2))) v := by
     rcases a0R hd0 hkey hmr 0 with ⟨i1, i2, _⟩ | ⟨j, x', c0, i1, i2, i3, i4, i5, i6, i8, _⟩
     ·refine ⟨zv, ?_, by rw [i2]; exact a3h (c := kc) ⟨hze.symm, hzo⟩ hzv⟩
      cases ok <;> simp [Instr.lookup, run_underlying hu, MapKept.run_getObj_map hb, MapKept.run_checkKey hud (z7 hd0 hkey), MapKept.run_findKey hud i1, hzr, i2, Result.andThen]
     ·refine ⟨x'.val, ?_, by rw [i4]; exact a3h (i6.ofD i5) i8⟩
      cases ok <;> simp [Instr.lookup, run_underlying hu, MapKept.run_getObj_map hb, MapKept.run_checkKey hud (z7 hd0 hkey), MapKept.run_findKey hud i1, i4, Result.andThen]
    obtain ⟨v, hrun, hrel⟩ := hrun
    refine f9 (v := if ok then .tuple #[v, .bool (Z3 kv r.es).isSome] else v) (w' := w) ?_ (hK _ _ E (h.put ?_ hd))
    ·simp [execOp, ho, hxe, hke, hrun, Result.andThen]
    ·cases ok with
     | false => exact hrel
     | true =>
      refine .tu (us := [v, .bool (Z3 kv r.es).isSome]) rfl fun i x u h1 h2 => ?_
      match i with
      | 0 => simp at h1 h2; subst h1; subst h2; exact hrel
      | 1 => simp at h1 h2; subst h1; subst h2; exact .one ⟨rfl, rfl⟩
      | i + 2 => simp at h1
   ·exact hK.elim
  ·exact hK.elim
 ·rename_i kc' es0 kv hv hkv
  split at hK
  ·rename_i hcond
   obtain ⟨rfl, hkey⟩ := hcond
   obtain ⟨b, es, clock, hxe, hb, hmr⟩ := c2Z (base := w0.heap.size) (u9 (l5 h hx) hv)
   have hke := q9 (l5 h hkx) hkv
   obtain ⟨zv, hzr, hze, hzv, hzo⟩ := a1T (w := w) hz1 hzk
   have hrun : ∃ v, (Instr.lookup t (.map (some b)) kv ok).run P w = .ok (if ok then .tuple #[v, .bool (O7 kv es0).isSome] else v) w ∧ VRel w (okE w0 okA E) w0.heap.size E (a2O kc' ((O7 kv es0).getD (a0d zn z.2))) v := by
    rw [a7L]
    rcases a0R hd0 hkey hmr 0 with ⟨i1, i2, _⟩ | ⟨j, x', c0, i1, i2, i3, i4, i5, i6, i8, _⟩
    ·refine ⟨zv, ?_, by rw [i2]; exact a3h (by rw [<- hze]; exact b3J hzo) hzv⟩
     cases ok <;> simp [Instr.lookup, run_underlying hu, MapKept.run_getObj_map hb, MapKept.run_checkKey hud (z7 hd0 hkey), MapKept.run_findKey hud i1, hzr, i2, Result.andThen]
    ·refine ⟨x'.val, ?_, by rw [i4]; exact a3h (i6.ofD i5) i8⟩
     cases ok <;> simp [Instr.lookup, run_underlying hu, MapKept.run_getObj_map hb, MapKept.run_checkKey hud (z7 hd0 hkey), MapKept.run_findKey hud i1, i4, Result.andThen]
   obtain ⟨v, hrun, hrel⟩ := hrun
   refine f9 (v := if ok then .tuple #[v, .bool (O7 kv es0).isSome] else v) (w' := w) ?_ (hK _ _ E (h.put ?_ hd))
   ·simp [execOp, ho, hxe, hke, hrun, Result.andThen]
   ·cases ok with
    | false => exact hrel
    | true =>
     refine .tu (us := [v, .bool (O7 kv es0).isSome]) rfl fun i x u h1 h2 => ?_
     match i with
     | 0 => simp at h1 h2; subst h1; subst h2; exact hrel
     | 1 => simp at h1 h2; subst h1; subst h2; exact .one ⟨rfl, rfl⟩
     | i + 2 => simp at h1
  ·exact hK.elim
 ·exact hK.elim
end
end Go.Ai

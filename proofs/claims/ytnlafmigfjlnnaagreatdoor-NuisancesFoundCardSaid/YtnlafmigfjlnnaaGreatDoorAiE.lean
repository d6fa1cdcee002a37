/- The abstract layer. -/
import Derived.Test.YtnlafmigfjlnnaaGreatDoorAiF
set_option linter.all false
namespace Go.Ai
open Go
inductive KI where
 | code (c : AC)
 | blk (id : Nat)
 | lp (I : AS -> Prop)
def c7j (P : Program) : List KI -> (AX -> AS -> Prop) -> AX -> AS -> Prop
 | [], Q => Q
 | .code c :: k, Q => b0m (awp P c (c7j P k Q)) (c7j P k Q)
 | .blk id :: k, Q => d2G id (c7j P k Q)
 | .lp I :: k, Q => b0m I (c7j P k Q)
def ex (P : Program) (c : AC) (k : List KI) (Q : AX -> AS -> Prop) (s : AS) : Prop := awp P c (c7j P k Q) s
def rg (P : Program) (l : List GI) (kp : Option Keep) (k : List KI) (Q : AX -> AS -> Prop) (s : AS) : Prop := a6M P l (fun s' => c7j P k Q .nrm (s'.keep kp)) s
section
variable {P : Program} {Q : AX -> AS -> Prop} {s : AS} {k : List KI} {kp : Option Keep} {l : List GI}
theorem c8h {a b : AC} : ex P (.seq a b) k Q s = ex P a (.code b :: k) Q s := (rfl)
theorem b6v {id : Nat} {a : AC} : ex P (.block id a) k Q s = ex P a (.blk id :: k) Q s := (rfl)
theorem a4I {b : AC} : ex P .skip (.code b :: k) Q s = ex P b k Q s := (rfl)
theorem a6V {id : Nat} : ex P .skip (.blk id :: k) Q s = ex P .skip k Q s := (rfl)
theorem b0N {I : AS -> Prop} : ex P .skip (.lp I :: k) Q s = I s := (rfl)
theorem a7i : ex P .skip [] Q s = Q .nrm s := (rfl)
theorem a4Y {id : Nat} {b : AC} : ex P (.exit id) (.code b :: k) Q s = ex P (.exit id) k Q s := (rfl)
theorem a6Y {id j : Nat} : ex P (.exit id) (.blk j :: k) Q s = if id = j then ex P .skip k Q s else ex P (.exit id) k Q s := (rfl)
theorem a9X {id : Nat} {I : AS -> Prop} : ex P (.exit id) (.lp I :: k) Q s = ex P (.exit id) k Q s := (rfl)
theorem a7f {b : AC} : ex P .ret (.code b :: k) Q s = ex P .ret k Q s := (rfl)
theorem b0h {j : Nat} : ex P .ret (.blk j :: k) Q s = ex P .ret k Q s := (rfl)
theorem b2n {I : AS -> Prop} : ex P .ret (.lp I :: k) Q s = ex P .ret k Q s := (rfl)
theorem b0H : ex P .ret [] Q s = Q .ret s := (rfl)
theorem d4h {j z : Nat} : ex P (.ty j z) k Q s = ex P .skip k Q { s with tm := upd s.tm j (tyV z (s.tm j)) } := (rfl)
theorem c6w {z c : Nat} : tyV z (.one (.g (.slice none 0 c))) = .one (.sl true z []) := (rfl)
theorem c9x {z z' : Nat} {fr : Bool} {es : List (List Cel)} : tyV z (.one (.sl fr z' es)) = .one (.sl fr z' es) := (rfl)
theorem d1z {d : Bool} : ex P (.reg d l kp) k Q s = rg P l kp k Q s := (rfl)
def cnd (P : Program) (v : Val) (a b : AC) (k : List KI) (Q : AX -> AS -> Prop) (s : AS) : Prop :=
 match v with
 | .one (.g (.bool t)) => (t = true -> ex P a k Q s) ∧ (t = false -> ex P b k Q s)
 | _ => False
theorem c3i {c : Opd} {a b : AC} : ex P (.cond c a b) k Q s = cnd P (s.ev c) a b k Q s := by
 unfold ex cnd
 simp only [awp]
 split
 ·rename_i t h; rw [h]; cases t <;> simp [ex]
 ·all_goals grind
theorem d3z {t : Bool} {a b : AC} : cnd P (.one (.g (.bool t))) a b k Q s = ((t = true -> ex P a k Q s) ∧ (t = false -> ex P b k Q s)) := (rfl)
theorem a7z {a b : AC} : cnd P (.one (.g (.bool true))) a b k Q s = ex P a k Q s := by simp [cnd]
theorem a5B {a b : AC} : cnd P (.one (.g (.bool false))) a b k Q s = ex P b k Q s := by simp [cnd]
theorem d1P : rg P [] kp k Q s = ex P .skip k Q (s.keep kp) := (rfl)
def sg (P : Program) (r : SRes) (l : List GI) (kp : Option Keep) (k : List KI) (Q : AX -> AS -> Prop) : Prop := q6 r (rg P l kp k Q)
theorem d4i : sg P (.ok s) l kp k Q = rg P l kp k Q s := (rfl)
theorem c5Y {p : Prop} : sg P (.need p s) l kp k Q = (p ∧ rg P l kp k Q s) := (rfl)
def gdG (P : Program) (v : Val) (g : Nat) (want : Bool) (d : Option Nat) (i : Ins) (l : List GI) (kp : Option Keep) (k : List KI) (Q : AX -> AS -> Prop) (s : AS) : Prop :=
 match v with
 | .one (.g (.bool b)) => (b = want -> rg P (⟨d, none, i⟩ :: l) kp k Q (s.fix g want)) ∧ (b = (!want) -> rg P l kp k Q ((s.fix g (!want)).put d (.tu [])))
 | .tu [] => rg P l kp k Q (s.put d (.tu []))
 | _ => False
theorem d2O {b want : Bool} {g : Nat} {d : Option Nat} {i : Ins} : gdG P (.one (.g (.bool b))) g want d i l kp k Q s =
  ((b = want -> rg P (⟨d, none, i⟩ :: l) kp k Q (s.fix g want)) ∧ (b = (!want) -> rg P l kp k Q ((s.fix g (!want)).put d (.tu [])))) := (rfl)
theorem d1A {want : Bool} {g : Nat} {d : Option Nat} {i : Ins} : gdG P (.tu []) g want d i l kp k Q s = rg P l kp k Q (s.put d (.tu [])) := (rfl)
theorem c0Q {g : Nat} {d : Option Nat} {i : Ins} : gdG P (.one (.g (.bool true))) g true d i l kp k Q s = rg P (⟨d, none, i⟩ :: l) kp k Q (s.fix g true) := by simp [gdG]
theorem c0K {g : Nat} {d : Option Nat} {i : Ins} : gdG P (.one (.g (.bool false))) g false d i l kp k Q s = rg P (⟨d, none, i⟩ :: l) kp k Q (s.fix g false) := by simp [gdG]
theorem c1r {g : Nat} {d : Option Nat} {i : Ins} : gdG P (.one (.g (.bool true))) g false d i l kp k Q s = rg P l kp k Q ((s.fix g true).put d (.tu [])) := by simp [gdG]
theorem c0G {g : Nat} {d : Option Nat} {i : Ins} : gdG P (.one (.g (.bool false))) g true d i l kp k Q s = rg P l kp k Q ((s.fix g false).put d (.tu [])) := by simp [gdG]
theorem b9Q {g : Nat} {want : Bool} {d : Option Nat} {i : Ins} : rg P (⟨d, some (g, want), i⟩ :: l) kp k Q s = gdG P (s.tm g) g want d i l kp k Q s := by
 unfold gdG rg
 simp only [a6M, Q8]
 split
 ·rename_i b h; rw [h]; cases b <;> cases want <;> simp <;> exact Iff.rfl
 ·rename_i h; rw [h]
 ·all_goals grind
def pkG (P : Program) (v : Val) (a b : Val) (d : Option Nat) (l : List GI) (kp : Option Keep) (k : List KI) (Q : AX -> AS -> Prop) (s : AS) : Prop :=
 match v with
 | .one (.g (.bool t)) => (t = true -> rg P l kp k Q (s.put d a)) ∧ (t = false -> rg P l kp k Q (s.put d b))
 | _ => False
theorem d2W {t : Bool} {a b : Val} {d : Option Nat} : pkG P (.one (.g (.bool t))) a b d l kp k Q s = ((t = true -> rg P l kp k Q (s.put d a)) ∧ (t = false -> rg P l kp k Q (s.put d b))) := (rfl)
theorem a8r {a b : Val} {d : Option Nat} : pkG P (.one (.g (.bool true))) a b d l kp k Q s = rg P l kp k Q (s.put d a) := by simp [pkG]
theorem a5b {a b : Val} {d : Option Nat} : pkG P (.one (.g (.bool false))) a b d l kp k Q s = rg P l kp k Q (s.put d b) := by simp [pkG]
theorem c6b {c a b : Opd} {d : Option Nat} : rg P (⟨d, none, .pick c a b⟩ :: l) kp k Q s = pkG P (s.ev c) (s.ev a) (s.ev b) d l kp k Q s := by
 unfold pkG rg
 simp only [a6M, Q8, s7]
 all_goals grind
theorem d4e {d : Option Nat} (x : Opd) : rg P (⟨d, none, .mv x⟩ :: l) kp k Q s = sg P (c9 d (.mv x) s) l kp k Q := (rfl)
theorem c0h {d : Option Nat} (z : List Value) : rg P (⟨d, none, .alloc z⟩ :: l) kp k Q s = sg P (c9 d (.alloc z) s) l kp k Q := (rfl)
theorem c7Q {d : Option Nat} (x : Opd) : rg P (⟨d, none, .box x⟩ :: l) kp k Q s = sg P (c9 d (.box x) s) l kp k Q := (rfl)
theorem b7b {d : Option Nat} (z : List Value) (ps : List (Nat × Nat × Opd)) : rg P (⟨d, none, .build z ps⟩ :: l) kp k Q s = sg P (c9 d (.build z ps) s) l kp k Q := (rfl)
theorem b4l {d : Option Nat} (z n : Nat) (ps : List Opd) : rg P (⟨d, none, .bslice z n ps⟩ :: l) kp k Q s = sg P (c9 d (.bslice z n ps) s) l kp k Q := (rfl)
theorem c4O {d : Option Nat} (a : Bool) (n : Nat) (x : Opd) : rg P (⟨d, none, .load a n x⟩ :: l) kp k Q s = sg P (c9 d (.load a n x) s) l kp k Q := (rfl)
theorem b7u {d : Option Nat} (n : Nat) (x y : Opd) : rg P (⟨d, none, .store n x y⟩ :: l) kp k Q s = sg P (c9 d (.store n x y) s) l kp k Q := (rfl)
theorem b1o {d : Option Nat} (x : Opd) : rg P (⟨d, none, .nilchk x⟩ :: l) kp k Q s = sg P (c9 d (.nilchk x) s) l kp k Q := (rfl)
theorem c8z {d : Option Nat} (op : BinOp) (x y : Opd) : rg P (⟨d, none, .bin op x y⟩ :: l) kp k Q s = sg P (c9 d (.bin op x y) s) l kp k Q := (rfl)
theorem c0P {d : Option Nat} (b g : Bool) (ks : List KTy) (x y : Opd) : rg P (⟨d, none, .eqs b g ks x y⟩ :: l) kp k Q s = sg P (c9 d (.eqs b g ks x y) s) l kp k Q := (rfl)
theorem d3p {d : Option Nat} (op : UnOp) (x : Opd) : rg P (⟨d, none, .un op x⟩ :: l) kp k Q s = sg P (c9 d (.un op x) s) l kp k Q := (rfl)
theorem c6G {d : Option Nat} (j : IntKind) (x : Opd) : rg P (⟨d, none, .conv j x⟩ :: l) kp k Q s = sg P (c9 d (.conv j x) s) l kp k Q := (rfl)
theorem c6f {d : Option Nat} (f : FuncId) (cs : List Opd) : rg P (⟨d, none, .mkfn f cs⟩ :: l) kp k Q s = sg P (c9 d (.mkfn f cs) s) l kp k Q := (rfl)
theorem c8o {d : Option Nat} (z : Nat) (x : Opd) (lo hi : Option Opd) : rg P (⟨d, none, .slc z x lo hi⟩ :: l) kp k Q s = sg P (c9 d (.slc z x lo hi) s) l kp k Q := (rfl)
theorem c5B {d : Option Nat} (o : Nat) (x : Opd) : rg P (⟨d, none, .fadr o x⟩ :: l) kp k Q s = sg P (c9 d (.fadr o x) s) l kp k Q := (rfl)
theorem c7a {d : Option Nat} (z : Nat) (x y : Opd) : rg P (⟨d, none, .iadr z x y⟩ :: l) kp k Q s = sg P (c9 d (.iadr z x y) s) l kp k Q := (rfl)
theorem c9J {d : Option Nat} (x y : Opd) : rg P (⟨d, none, .idx x y⟩ :: l) kp k Q s = sg P (c9 d (.idx x y) s) l kp k Q := (rfl)
theorem c4e {d : Option Nat} (x : Opd) (n : Nat) : rg P (⟨d, none, .extr x n⟩ :: l) kp k Q s = sg P (c9 d (.extr x n) s) l kp k Q := (rfl)
theorem d1V {d : Option Nat} (x : Opd) : rg P (⟨d, none, .len x⟩ :: l) kp k Q s = sg P (c9 d (.len x) s) l kp k Q := (rfl)
theorem c2p {d : Option Nat} (x : Opd) : rg P (⟨d, none, .slen x⟩ :: l) kp k Q s = sg P (c9 d (.slen x) s) l kp k Q := (rfl)
theorem c9a {d : Option Nat} (b : Bool) (x y : Opd) : rg P (⟨d, none, .mnx b x y⟩ :: l) kp k Q s = sg P (c9 d (.mnx b x y) s) l kp k Q := (rfl)
theorem c8s {d : Option Nat} (z : Nat) (x y : Opd) : rg P (⟨d, none, .sfx z x y⟩ :: l) kp k Q s = sg P (c9 d (.sfx z x y) s) l kp k Q := (rfl)
theorem d0D {d : Option Nat} (z : Nat) (x y : Opd) : rg P (⟨d, none, .trn z x y⟩ :: l) kp k Q s = sg P (c9 d (.trn z x y) s) l kp k Q := (rfl)
theorem d1x {d : Option Nat} (E : TypeId) (z : Nat) (zero : List Value) (x : Opd) : rg P (⟨d, none, .clr E z zero x⟩ :: l) kp k Q s = sg P (c9 d (.clr E z zero x) s) l kp k Q := (rfl)
theorem c8Q {d : Option Nat} (E : TypeId) (z b : Nat) (zero : List Value) (x y : Opd) : rg P (⟨d, none, .mkr E z b zero x y⟩ :: l) kp k Q s = sg P (c9 d (.mkr E z b zero x y) s) l kp k Q := (rfl)
theorem c8G {d : Option Nat} (kc : Nat) : rg P (⟨d, none, .mkm kc⟩ :: l) kp k Q s = sg P (c9 d (.mkm kc) s) l kp k Q := (rfl)
theorem d1K {d : Option Nat} (kc : Nat) (x y : Opd) : rg P (⟨d, none, .mdl kc x y⟩ :: l) kp k Q s = sg P (c9 d (.mdl kc x y) s) l kp k Q := (rfl)
theorem c8F {d : Option Nat} (kc : Nat) (x y z : Opd) : rg P (⟨d, none, .mup kc x y z⟩ :: l) kp k Q s = sg P (c9 d (.mup kc x y z) s) l kp k Q := (rfl)
theorem c2Y {d : Option Nat} (n z : Nat) (x y : Opd) : rg P (⟨d, none, .aadr n z x y⟩ :: l) kp k Q s = sg P (c9 d (.aadr n z x y) s) l kp k Q := (rfl)
theorem c5J {d : Option Nat} (x : Opd) (lo hi : Option Opd) : rg P (⟨d, none, .ssub x lo hi⟩ :: l) kp k Q s = sg P (c9 d (.ssub x lo hi) s) l kp k Q := (rfl)
theorem d0x {d : Option Nat} (kc : Nat) (z : Value) (b : Bool) (zn : Nat) (x y : Opd) : rg P (⟨d, none, .mlk kc z b zn x y⟩ :: l) kp k Q s = sg P (c9 d (.mlk kc z b zn x y) s) l kp k Q := (rfl)
theorem c7z {d : Option Nat} (x : Opd) (key : Option Nat) : rg P (⟨d, none, .chk x key⟩ :: l) kp k Q s = sg P (c9 d (.chk x key) s) l kp k Q := (rfl)
theorem b2D {d : Option Nat} (E : TypeId) (z b : Nat) (x y : Opd) : rg P (⟨d, none, .append E z b x y⟩ :: l) kp k Q s = sg P (c9 d (.append E z b x y) s) l kp k Q := (rfl)
def d1T (P : Program) (f : FuncId) (vargs : List Val) (pl : Bool) (d : Option Nat) (l : List GI) (kp : Option Keep) (k : List KI) (Q : AX -> AS -> Prop) (s : AS) : Prop :=
 ∃ R, FC P f none vargs R ∧ (∃ cs r, R cs r) ∧ ∀ cs r, R cs r -> (P2 r = true ∨ (M8 r = true ∧ pl = true)) ∧ rg P l kp k Q (s.put d r)
def b1j (P : Program) (f : FuncId) (key : Nat) (cs : List Cel) (vargs : List Val) (d : Option Nat) (l : List GI) (kp : Option Keep) (k : List KI) (Q : AX -> AS -> Prop) (s : AS) : Prop :=
 ∃ R, FC P f (some cs) vargs R ∧ (∃ cs r, R cs r) ∧ ∀ cs' r, R cs' r -> M8 r = true ∧ cs'.all C7 = true ∧ rg P l kp k Q ({ s with bx := upd s.bx key (some cs') }.put d r)
def clG (P : Program) (f : Val) (args : List Val) (d : Option Nat) (l : List GI) (kp : Option Keep) (k : List KI) (Q : AX -> AS -> Prop) (s : AS) : Prop :=
 a4K P s d f args (rg P l kp k Q)
theorem c4o {f : Opd} {as : List Opd} {d : Option Nat} : rg P (⟨d, none, .call f as⟩ :: l) kp k Q s = clG P (s.ev f) (as.map s.ev) d l kp k Q s := (rfl)
theorem d4L {f : FuncId} {caps : List Cel} {args : List Val} {d : Option Nat} :
  clG P (.one (.fn f caps)) args d l kp k Q s = d1T P f ((args ++ caps.map Val.one).map s.view) ((args ++ caps.map Val.one).all W9) d l kp k Q s := (rfl)
def clY (P : Program) (f : Val) (args : List Val) (d : Option Nat) (l : List GI) (kp : Option Keep) (k : List KI) (Q : AX -> AS -> Prop) (s : AS) : Prop :=
 W7 P s d f args (rg P l kp k Q)
theorem b9c {f : Opd} {as : List Opd} {d : Option Nat} : rg P (⟨d, none, .callx f as⟩ :: l) kp k Q s = clY P (s.ev f) (as.map s.ev) d l kp k Q s := (rfl)
def clX (P : Program) (f key : Nat) (rest : List Val) (d : Option Nat) (l : List GI) (kp : Option Keep) (k : List KI) (Q : AX -> AS -> Prop) (s : AS) : Option (List Cel) -> Prop
 | some cs => W1 key = false ∧ cs.all C8 = true ∧ rest.all W9 = true ∧ b1j P f key (cs.map s.viewC) (rest.map s.view) d l kp k Q s
 | none => False
theorem d3U {f : FuncId} {key : Nat} {rest : List Val} {d : Option Nat} : clY P (.one (.fn f [])) (.one (.bx key 0) :: rest) d l kp k Q s = clX P f key rest d l kp k Q s (s.bx key) := by
 unfold clY W7 a7s
 simp only []
 cases hs : s.bx key with
 | none => rfl
 | some cs => rfl
theorem b5W {f : FuncId} {key : Nat} {rest : List Val} {d : Option Nat} {cs : List Cel} : clX P f key rest d l kp k Q s (some cs) = (W1 key = false ∧ cs.all C8 = true ∧ rest.all W9 = true ∧ b1j P f key (cs.map s.viewC) (rest.map s.view) d l kp k Q s) := (rfl)
theorem m9 {f : FuncId} {vargs : List Val} {pl : Bool} {d : Option Nat} {r : Val} (hf : FC P f none vargs (fun _ x => x = r)) (hr : P2 r = true ∨ (M8 r = true ∧ pl = true)) (h : rg P l kp k Q (s.put d r)) : d1T P f vargs pl d l kp k Q s :=
 ⟨_, hf, ⟨[], r, rfl⟩, fun _ x hx => by subst hx; exact ⟨hr, h⟩⟩
def a6D (P : Program) (f : FuncId) (H : Hp) (vargs : List Val) (m : CAnn) (d : Option Nat) (l : List GI) (kp : Option Keep) (k : List KI) (Q : AX -> AS -> Prop) (s : AS) : Prop :=
 ∃ R, F9 P f m.sts H vargs R ∧ (∃ H r, R H r) ∧ ∀ H r, R H r -> d3H m H ∧ rg P l kp k Q ((s.after m H).put d (s.backV m r))
def clM (P : Program) (f : Val) (args : List Val) (m : CAnn) (d : Option Nat) (l : List GI) (kp : Option Keep) (k : List KI) (Q : AX -> AS -> Prop) (s : AS) : Prop :=
 a2t P s d f args m (rg P l kp k Q)
theorem b9W {f : Opd} {as : List Opd} {m : CAnn} {d : Option Nat} : rg P (⟨d, none, .callm f as m⟩ :: l) kp k Q s = clM P (s.ev f) (as.map s.ev) m d l kp k Q s := (rfl)
theorem d4B {f : FuncId} {caps : List Cel} {args : List Val} {m : CAnn} {d : Option Nat} :
  clM P (.one (.fn f caps)) args m d l kp k Q s = (okM s m = true ∧ a6D P f (s.hp m) ((args ++ caps.map Val.one).map (s.passV m)) m d l kp k Q s) := (rfl)
theorem e7 {f : FuncId} {H X : Hp} {Y : Val} {vargs : List Val} {m : CAnn} {d : Option Nat} (hf : F9 P f m.sts H vargs (fun H' r' => H' = X ∧ r' = Y)) (hk : X.bs.map (·.1) = m.obs ∧ X.rs.map (·.1) = m.ors) (h : rg P l kp k Q ((s.after m X).put d (s.backV m Y))) : a6D P f H vargs m d l kp k Q s :=
 ⟨_, hf, ⟨X, Y, rfl, rfl⟩, fun H' r' hx => by obtain ⟨rfl, rfl⟩ := hx; exact ⟨.inl hk, h⟩⟩
def swp (a b k : Nat) : Nat := if k = a then b else if k = b then a else k
theorem s8 (a b k : Nat) : swp a b (swp a b k) = k := by
 unfold swp; split <;> (repeat' split) <;> omega
theorem a4F {f : FuncId} {S : List Nat} {H0 X0 H : Hp} {Y0 : Val} {args0 vargs : List Val} {m : CAnn} {d : Option Nat} (p q : Nat -> Nat) (hp : ∀ k, p (p k) = k) (hq : ∀ k, q (q k) = k) (hf : F9 P f S H0 args0 (fun H' r' => H' = X0 ∧ r' = Y0)) (hna : ∀ x ∈ args0, ∀ xs, x ≠ .tu xs)
  (hS : S.map q = m.sts) (hH : H0.rn p q = H) (ha : args0.map (rnV p q) = vargs) (hk : (X0.rn p q).bs.map (·.1) = m.obs ∧ (X0.rn p q).rs.map (·.1) = m.ors) (h : rg P l kp k Q ((s.after m (X0.rn p q)).put d (s.backV m (rnV p q Y0)))) (hb : H0.bs.all (fun x => W1 x.1 == W1 (p x.1)) = true := by rfl) : a6D P f H vargs m d l kp k Q s := by
 subst hH; subst ha
 refine ⟨_, hS ▸ c2g hp hq hna hf hb, ⟨_, _, X0, Y0, ⟨rfl, rfl⟩, rfl, rfl⟩, ?_⟩
 rintro H' r' ⟨H1, r1, ⟨rfl, rfl⟩, rfl, rfl⟩
 exact ⟨.inl hk, h⟩
theorem a7K {f : FuncId} {H0 X0 H : Hp} {Y0 : Val} {args0 vargs : List Val} {bks rks obs ors : List Nat} {d : Option Nat} (p q : Nat -> Nat) (hp : ∀ k, p (p k) = k) (hq : ∀ k, q (q k) = k) (hf : FCM P f H0 args0 (fun H' r' => H' = X0 ∧ r' = Y0)) (hna : ∀ x ∈ args0, ∀ xs, x ≠ .tu xs)
  (hH : H0.rn p q = H) (ha : args0.map (rnV p q) = vargs) (hk : (X0.rn p q).bs.map (·.1) = obs ∧ (X0.rn p q).rs.map (·.1) = ors) (h : rg P l kp k Q ((s.after ⟨bks, rks, obs, ors, []⟩ (X0.rn p q)).put d (s.backV ⟨bks, rks, obs, ors, []⟩ (rnV p q Y0)))) (hb : H0.bs.all (fun x => W1 x.1 == W1 (p x.1)) = true := by rfl) : a6D P f H vargs ⟨bks, rks, obs, ors, []⟩ d l kp k Q s :=
 a4F p q hp hq hf hna rfl hH ha hk h hb
theorem c2z {X : Type} (st : X -> AS) (μ : X -> Nat) (x0 : X) {a : AC} (h0 : s = st x0) (round : ∀ x, ex P a (.lp (fun s' => ∃ y, s' = st y ∧ μ y < μ x) :: k) Q (st x)) : ex P (.loop a) k Q s := by
 refine ⟨fun n s => ∃ x, s = st x ∧ μ x = n, μ x0, ⟨x0, h0, rfl⟩, fun n s ⟨x, hs, hn⟩ => ?_⟩
 subst hs; subst hn
 have h := round x
 refine F2 a _ _ (fun e s h => ?_) _ h
 cases e with
 | nrm => obtain ⟨y, hy, hlt⟩ := h; exact ⟨μ y, hlt, y, hy, rfl⟩
 | ret => exact h
 | ex id => exact h
theorem a0S {X : Type} (st : X -> AS) (I : X -> Prop) (μ : X -> Nat) (x0 : X) {a : AC} (hI : I x0) (h0 : s = st x0) (round : ∀ x, I x -> ex P a (.lp (fun s' => ∃ y, I y ∧ s' = st y ∧ μ y < μ x) :: k) Q (st x)) : ex P (.loop a) k Q s := by
 refine c2z (X := { x // I x }) (fun x => st x.1) (fun x => μ x.1) ⟨x0, hI⟩ h0 (fun x => ?_)
 refine F2 a _ _ (fun e s h => ?_) _ (round x.1 x.2)
 cases e with
 | nrm => obtain ⟨y, h1, h2, h3⟩ := h; exact ⟨⟨y, h1⟩, h2, h3⟩
 | ret => exact h
 | ex id => exact h
theorem l0 {X : Type} (st : X -> AS) (I : X -> Prop) (μ : X -> Nat) (x0 : X) {a : AC} (hI : I x0) (h0 : s = st x0) (round : ∀ x, I x -> ex P a (.lp (fun s' => ∃ y, s' = st y ∧ I y ∧ μ y < μ x) :: k) Q (st x)) : ex P (.loop a) k Q s := by
 refine a0S st I μ x0 hI h0 (fun x hx => ?_)
 grind
theorem j7 {X Y : Type} (st : X -> Y -> AS) (I : X -> Y -> Prop) (μ : X -> Y -> Nat) (x0 : X) (y0 : Y) {a : AC} (hI : I x0 y0) (h0 : s = st x0 y0)
  (round : ∀ x y, I x y -> ex P a (.lp (fun s' => ∃ x' y', s' = st x' y' ∧ I x' y' ∧ μ x' y' < μ x y) :: k) Q (st x y)) : ex P (.loop a) k Q s := by
 refine l0 (fun x : X × Y => st x.1 x.2) (fun x => I x.1 x.2) (fun x => μ x.1 x.2) (x0, y0) hI h0 (fun x hx => ?_)
 refine F2 a _ _ (fun e s h => ?_) _ (round x.1 x.2 hx)
 cases e with
 | nrm => obtain ⟨y, z, h⟩ := h; exact ⟨(y, z), h⟩
 | ret => exact h
 | ex id => exact h
theorem F4 {X Y Z : Type} (st : X -> Y -> Z -> AS) (I : X -> Y -> Z -> Prop) (μ : X -> Y -> Z -> Nat) (x0 : X) (y0 : Y) (z0 : Z) {a : AC} (hI : I x0 y0 z0) (h0 : s = st x0 y0 z0)
  (round : ∀ x y z, I x y z -> ex P a (.lp (fun s' => ∃ x' y' z', s' = st x' y' z' ∧ I x' y' z' ∧ μ x' y' z' < μ x y z) :: k) Q (st x y z)) : ex P (.loop a) k Q s := by
 refine l0 (fun x : X × Y × Z => st x.1 x.2.1 x.2.2) (fun x => I x.1 x.2.1 x.2.2) (fun x => μ x.1 x.2.1 x.2.2) (x0, y0, z0) hI h0 (fun x hx => ?_)
 refine F2 a _ _ (fun e s h => ?_) _ (round x.1 x.2.1 x.2.2 hx)
 cases e with
 | nrm => obtain ⟨y, z, t, h⟩ := h; exact ⟨(y, z, t), h⟩
 | ret => exact h
 | ex id => exact h
theorem b9i {X Y Z T : Type} (st : X -> Y -> Z -> T -> AS) (I : X -> Y -> Z -> T -> Prop) (μ : X -> Y -> Z -> T -> Nat) (x0 : X) (y0 : Y) (z0 : Z) (t0 : T) {a : AC} (hI : I x0 y0 z0 t0) (h0 : s = st x0 y0 z0 t0)
  (round : ∀ x y z t, I x y z t -> ex P a (.lp (fun s' => ∃ x' y' z' t', s' = st x' y' z' t' ∧ I x' y' z' t' ∧ μ x' y' z' t' < μ x y z t) :: k) Q (st x y z t)) : ex P (.loop a) k Q s := by
 refine l0 (fun x : X × Y × Z × T => st x.1 x.2.1 x.2.2.1 x.2.2.2) (fun x => I x.1 x.2.1 x.2.2.1 x.2.2.2) (fun x => μ x.1 x.2.1 x.2.2.1 x.2.2.2) (x0, y0, z0, t0) hI h0 (fun x hx => ?_)
 refine F2 a _ _ (fun e s h => ?_) _ (round x.1 x.2.1 x.2.2.1 x.2.2.2 hx)
 cases e with
 | nrm => obtain ⟨y, z, t, r, h⟩ := h; exact ⟨(y, z, t, r), h⟩
 | ret => exact h
 | ex id => exact h
def rnd (P : Program) (a : AC) (k : List KI) (Q : AX -> AS -> Prop) : Nat -> AS -> Prop
 | 0, _ => False
 | n + 1, s => ex P a (.lp (rnd P a k Q n) :: k) Q s
theorem b9V {a : AC} {n : Nat} : rnd P a k Q (n + 1) s = ex P a (.lp (rnd P a k Q n) :: k) Q s := (rfl)
theorem T6 (n : Nat) {a : AC} (h : rnd P a k Q n s) : ex P (.loop a) k Q s := by
 refine ⟨fun n s => rnd P a k Q n s, n, h, fun n s h => ?_⟩
 cases n with
 | zero => exact h.elim
 | succ n =>
  refine F2 a _ _ (fun e s h => ?_) _ h
  cases e with
  | nrm => exact ⟨n, Nat.lt_succ_self n, h⟩
  | ret => exact h
  | ex id => exact h
attribute [go_sem] b9V
/-! ### the steps, by the shape of what they are handed -/
section
variable {P : Program} {Q : AX -> AS -> Prop} {s : AS} {d : Option Nat}
theorem d5O {n : Nat} : s.ev (.t n) = s.tm n := (rfl)
theorem d6f {x : Value} : s.ev (.v x) = ofV x := (rfl)
theorem d5W {n : Nat} : s.ev (.b n) = d4E (s.tm n) := (rfl)
theorem d6B {n : Nat} : s.ev (.s n) = d5E (s.tm n) := (rfl)
theorem d1a {b : ByteArray} : d4E (.one (.g (.string b))) = .one (.sl true 1 (c4g b)) := (rfl)
theorem d6o {n : FuncId} : s.ev (.f n) = .one (.fn n []) := (rfl)
theorem c6B {k : IntKind} {n : Int} : ofV (.int k n) = .one (.g (.int k n)) := (rfl)
theorem b6r {b : Bool} : ofV (.bool b) = .one (.g (.bool b)) := (rfl)
theorem b0w {b : ByteArray} : ofV (.string b) = .one (.g (.string b)) := (rfl)
theorem b1q {a : Option Addr} {n c : Nat} : ofV (.slice a n c) = .one (.g (.slice a n c)) := (rfl)
theorem c3G {a : Option Addr} : ofV (.pointer a) = .one (.g (.pointer a)) := (rfl)
theorem c2J {a : Option Nat} : ofV (.map a) = .one (.g (.map a)) := (rfl)
theorem b6Y : ofV .nilFunc = .one (.g .nilFunc) := (rfl)
theorem b9y : ofV .nilIface = .one (.g .nilIface) := (rfl)
theorem b5A {k : Nat} {v : Val} : s.put (some k) v = { s with tm := upd s.tm k v } := (rfl)
theorem b6A {v : Val} : s.put none v = s := (rfl)
theorem c9u {g : Nat} {b : Bool} : s.fix g b = { s with tm := upd s.tm g (bv b) } := (rfl)
theorem d7p {x : Opd} : c9 d (.mv x) s = .ok (s.put d (s.ev x)) := (rfl)
def a2B (s : AS) (k : Nat) (zero : List Cel) : Option (List Cel) -> SRes
 | none => if k = 0 then .bad else .ok { s with tm := upd s.tm k (.one (.bx k 0)), bx := upd s.bx k (some zero) }
 | some _ => .bad
theorem a6Q {k : Nat} {z : List Cel} : a2B s k z none = if k = 0 then .bad else .ok { s with tm := upd s.tm k (.one (.bx k 0)), bx := upd s.bx k (some z) } := (rfl)
theorem c4m {k : Nat} {z : List Value} : c9 (some k) (.alloc z) s = a2B s k (z.map .g) (s.bx k) := by unfold a2B; simp only [c9]; first | done | rfl
def d4T (s : AS) (k : Nat) : Option (List Cel) -> SRes
 | some cs => a2B s k cs (s.bx k)
 | none => .bad
theorem b3N {k : Nat} {cs : List Cel} : d4T s k (some cs) = a2B s k cs (s.bx k) := (rfl)
theorem c7d {k : Nat} (h : 1000000 <= k) (h' : k < 1900000) : W1 k = false := by unfold W1; rw [decide_eq_false (by omega), decide_eq_false (by omega)]; rfl
theorem d3N {k : Nat} {x : Opd} : c9 (some k) (.box x) s = d4T s k (t6 (s.ev x)) := by
 unfold d4T a2B; simp only [c9]; cases t6 (s.ev x) <;> rfl
theorem b0b {c : Cel} : t6 (.one c) = some [c] := (rfl)
theorem b1g {cs : List Cel} : t6 (.ag cs) = some cs := (rfl)
def d3o (acc : Option (List Cel)) (off n : Nat) (x : Option (List Cel)) : Option (List Cel) :=
 match acc, x with
 | some cs, some news => if news.length = n ∧ off + n <= cs.length then some (wr cs off news) else none
 | _, _ => none
theorem b2O {cs news : List Cel} {off n : Nat} : d3o (some cs) off n (some news) = if news.length = n ∧ off + n <= cs.length then some (wr cs off news) else none := (rfl)
def c6e (s : AS) : Option (List Cel) -> List (Nat × Nat × Opd) -> Option (List Cel)
 | acc, [] => acc
 | acc, p :: l => c6e s (d3o acc p.1 p.2.1 (t6 (s.ev p.2.2))) l
theorem b8L {acc : Option (List Cel)} : c6e s acc [] = acc := (rfl)
theorem b1T {acc : Option (List Cel)} {a b : Nat} {x : Opd} {l : List (Nat × Nat × Opd)} : c6e s acc ((a, b, x) :: l) = c6e s (d3o acc a b (t6 (s.ev x))) l := (rfl)
def agS (s : AS) (d : Option Nat) : Option (List Cel) -> SRes
 | some cs => .ok (s.put d (.ag cs))
 | none => .bad
theorem b8c {cs : List Cel} : agS s d (some cs) = .ok (s.put d (.ag cs)) := (rfl)
theorem c2s {z : List Value} {ps : List (Nat × Nat × Opd)} : c9 d (.build z ps) s = agS s d (c6e s (some (z.map .g)) ps) := by
 have h : ∀ (ps : List (Nat × Nat × Opd)) (acc : Option (List Cel)), c6e s acc ps = ps.foldl (fun acc p => match acc, t6 (s.ev p.2.2) with
   | some cs, some news => if news.length = p.2.1 ∧ p.1 + p.2.1 <= cs.length then some (wr cs p.1 news) else none
   | _, _ => none) acc := by
  intro ps
  induction ps with
  | nil => intro acc; rfl
  | cons p ps ih => intro acc; simp only [c6e, List.foldl_cons, ih]; rfl
 unfold agS; rw [h]; rfl
def d3M (s : AS) (d : Option Nat) (z len n : Nat) : Option (List (List Cel)) -> SRes
 | some es => if es.all (fun e => e.length = z && e.all Cel.isD) && n = len then .ok (s.put d (.one (.sl (frE es) z es))) else .bad
 | none => .bad
theorem b2J {z len n : Nat} {es : List (List Cel)} : d3M s d z len n (some es) = if es.all (fun e => e.length = z && e.all Cel.isD) && n = len then .ok (s.put d (.one (.sl (frE es) z es))) else .bad := (rfl)
def cellsL (s : AS) : List Opd -> Option (List (List Cel))
 | [] => some []
 | x :: l => consL (t6 (s.ev x)) (cellsL s l)
where consL : Option (List Cel) -> Option (List (List Cel)) -> Option (List (List Cel))
 | some e, some es => some (e :: es)
 | _, _ => none
theorem a9Y : cellsL s [] = some [] := (rfl)
theorem a7c {x : Opd} {l : List Opd} : cellsL s (x :: l) = cellsL.consL (t6 (s.ev x)) (cellsL s l) := (rfl)
theorem a9S {e : List Cel} {es : List (List Cel)} : cellsL.consL (some e) (some es) = some (e :: es) := (rfl)
theorem c0i {z len : Nat} {ps : List Opd} : c9 d (.bslice z len ps) s = d3M s d z len ps.length (cellsL s ps) := by
 have h : ∀ ps : List Opd, cellsL s ps = ps.mapM (fun p => t6 (s.ev p)) := by
  intro ps
  induction ps with
  | nil => rfl
  | cons p ps ih =>
   simp only [cellsL, ih, List.mapM_cons]
   cases t6 (s.ev p) <;> cases ps.mapM (fun p => t6 (s.ev p)) <;> rfl
 unfold d3M; rw [h]; rfl
def ldB (s : AS) (d : Option Nat) (agg : Bool) (n off : Nat) : Option (List Cel) -> SRes
 | some cs => Q0 s d agg n (cs.drop off)
 | none => .bad
theorem b5S {agg : Bool} {n off : Nat} {cs : List Cel} : ldB s d agg n off (some cs) = Q0 s d agg n (cs.drop off) := (rfl)
def ldE (s : AS) (d : Option Nat) (agg : Bool) (n off : Nat) : Option (List Cel) -> SRes
 | some e => Q0 s d agg n (e.drop off)
 | none => .bad
theorem b7X {agg : Bool} {n off : Nat} {e : List Cel} : ldE s d agg n off (some e) = Q0 s d agg n (e.drop off) := (rfl)
def ldR (s : AS) (d : Option Nat) (agg : Bool) (n ver i off : Nat) : Option Row -> SRes
 | some r => if ver = r.ver then ldE s d agg n off r.es[i]? else .bad
 | none => .bad
theorem b7R {agg : Bool} {n ver i off v : Nat} {E : TypeId} {z : Nat} {es : List (List Cel)} : ldR s d agg n ver i off (some ⟨v, E, z, es⟩) = if ver = v then ldE s d agg n off es[i]? else .bad := (rfl)
def ldS (s : AS) (d : Option Nat) (agg : Bool) (n : Nat) : Val -> SRes
 | .one (.bx k off) => ldB s d agg n off (s.bx k)
 | .one (.ep cs) => Q0 s d agg n (cs.map Cel.dat)
 | .one (.op k ver i off) => ldR s d agg n ver i off (s.rw k)
 | _ => .bad
theorem c7V {agg : Bool} {n k off : Nat} : ldS s d agg n (.one (.bx k off)) = ldB s d agg n off (s.bx k) := (rfl)
theorem c9q {agg : Bool} {n : Nat} {cs : List Cel} : ldS s d agg n (.one (.ep cs)) = Q0 s d agg n (cs.map Cel.dat) := (rfl)
theorem d0Q {agg : Bool} {n k ver i off : Nat} : ldS s d agg n (.one (.op k ver i off)) = ldR s d agg n ver i off (s.rw k) := (rfl)
theorem d2h {agg : Bool} {n : Nat} {x : Opd} : c9 d (.load agg n x) s = ldS s d agg n (s.ev x) := by
 unfold ldS ldB ldR ldE; simp only [c9]; first | done | rfl
theorem a9Z {n : Nat} {cs : List Cel} : Q0 s d true n cs = .need (n <= cs.length) (s.put d (.ag (cs.take n))) := (rfl)
theorem a6N {n : Nat} {c : Cel} {cs : List Cel} : Q0 s d false n (c :: cs) = .ok (s.put d (.one c)) := (rfl)
theorem d4u {v : Value} : (Cel.g v).dat = .g v := (rfl)
theorem d2t {fr : Bool} {z : Nat} {es : List (List Cel)} : (Cel.sl fr z es).dat = .sl false z es := (rfl)
theorem c3g : Cel.any.dat = .any := (rfl)
def stB (s : AS) (d : Option Nat) (n k off : Nat) (news : List Cel) : Option (List Cel) -> SRes
 | some cs => if news.length = n then .need (off + n <= cs.length) ({ s with bx := upd s.bx k (some (wr cs off news)) }.put d .any) else .bad
 | none => .bad
theorem b5E {n k off : Nat} {cs news : List Cel} : stB s d n k off news (some cs) = if news.length = n then .need (off + n <= cs.length) ({ s with bx := upd s.bx k (some (wr cs off news)) }.put d .any) else .bad := (rfl)
def stE (s : AS) (d : Option Nat) (n k i off : Nat) (news : List Cel) (r : Row) : Option (List Cel) -> SRes
 | some e => .need (off + n <= e.length) ({ s with rw := upd s.rw k (some { r with es := r.es.set i (wr e off news) }) }.put d .any)
 | none => .bad
theorem b8m {n k i off : Nat} {e news : List Cel} {r : Row} : stE s d n k i off news r (some e) = .need (off + n <= e.length) ({ s with rw := upd s.rw k (some { r with es := r.es.set i (wr e off news) }) }.put d .any) := (rfl)
def stR (s : AS) (d : Option Nat) (n k ver i off : Nat) (news : List Cel) : Option Row -> SRes
 | some r => if ver = r.ver && news.length = n && news.all Cel.isD then stE s d n k i off news r r.es[i]? else .bad
 | none => .bad
theorem c0A {n k ver i off : Nat} {news : List Cel} {v : Nat} {E : TypeId} {z : Nat} {es : List (List Cel)} : stR s d n k ver i off news (some ⟨v, E, z, es⟩) = if ver = v && news.length = n && news.all Cel.isD then stE s d n k i off news ⟨v, E, z, es⟩ es[i]? else .bad := (rfl)
def stS (s : AS) (d : Option Nat) (n : Nat) : Val -> Option (List Cel) -> SRes
 | .one (.bx k off), some news => stB s d n k off news (s.bx k)
 | .one (.op k ver i off), some news => stR s d n k ver i off news (s.rw k)
 | _, _ => .bad
theorem d0u {n k off : Nat} {news : List Cel} : stS s d n (.one (.bx k off)) (some news) = stB s d n k off news (s.bx k) := (rfl)
theorem d2q {n k ver i off : Nat} {news : List Cel} : stS s d n (.one (.op k ver i off)) (some news) = stR s d n k ver i off news (s.rw k) := (rfl)
theorem c4J {n : Nat} {x v : Opd} : c9 d (.store n x v) s = stS s d n (s.ev x) (t6 (s.ev v)) := by
 unfold stS stB stR stE; simp only [c9]; first | done | rfl
def nlR (s : AS) (d : Option Nat) (k ver i off : Nat) : Option Row -> SRes
 | some r => if ver = r.ver then .ok (s.put d (.one (.op k ver i off))) else .bad
 | none => .bad
theorem b9H {k ver i off v : Nat} {E : TypeId} {z : Nat} {es : List (List Cel)} : nlR s d k ver i off (some ⟨v, E, z, es⟩) = if ver = v then .ok (s.put d (.one (.op k ver i off))) else .bad := (rfl)
def nlS (s : AS) (d : Option Nat) : Val -> SRes
 | .one (.bx k off) => .ok (s.put d (.one (.bx k off)))
 | .one (.ep cs) => .ok (s.put d (.one (.ep cs)))
 | .one (.op k ver i off) => nlR s d k ver i off (s.rw k)
 | _ => .bad
theorem c8P {k off : Nat} : nlS s d (.one (.bx k off)) = .ok (s.put d (.one (.bx k off))) := (rfl)
theorem c9Y {cs : List Cel} : nlS s d (.one (.ep cs)) = .ok (s.put d (.one (.ep cs))) := (rfl)
theorem c9g {k ver i off : Nat} : nlS s d (.one (.op k ver i off)) = nlR s d k ver i off (s.rw k) := (rfl)
def eqS (s : AS) (d : Option Nat) (neg : Bool) : Option Bool -> SRes
 | some b => .ok (s.put d (bv (if neg then !b else b)))
 | none => .bad
theorem d5c {b : Bool} : eqS s d true (some b) = .ok (s.put d (.one (.g (.bool (!b))))) := by simp [eqS, bv]
theorem d3K {b : Bool} : eqS s d false (some b) = .ok (s.put d (.one (.g (.bool b)))) := by simp [eqS, bv]
theorem d4O {neg agg : Bool} {ks : List KTy} {x y : Opd} : c9 d (.eqs neg agg ks x y) s = eqS s d neg (eqV agg ks (s.ev x) (s.ev y)) := by
 unfold eqS; simp only [c9]; first | done | rfl
theorem d1s {ks : List KTy} {cs ds : List Cel} : eqV true ks (.ag cs) (.ag ds) = eqL ks cs ds := (rfl)
theorem c6k {ks : List KTy} {c e : Cel} : eqV false ks (.one c) (.one e) = eqL ks [c] [e] := (rfl)
theorem c4R : eqL [] [] [] = some true := (rfl)
def d5D : Option Bool -> Option Bool -> Option Bool
 | some a, some b => some (a && b)
 | _, _ => none
theorem b2I {a b : Bool} : d5D (some a) (some b) = some (a && b) := (rfl)
theorem b7k {k : KTy} {ks : List KTy} {c e : Cel} {cs ds : List Cel} : eqL (k :: ks) (c :: cs) (e :: ds) = d5D (eqK k c e) (eqL ks cs ds) := (rfl)
theorem d3L {k : IntKind} {a b : Int} : eqK (.i k) (.g (.int k a)) (.g (.int k b)) = some (decide (a = b)) := by simp [eqK]
theorem d3a {a b : Bool} : eqK .b (.g (.bool a)) (.g (.bool b)) = some (decide (a = b)) := (rfl)
theorem d3i {a b : ByteArray} : eqK .s (.g (.string a)) (.g (.string b)) = some (a.toList == b.toList) := (rfl)
theorem c2D {fr : Bool} {z n c : Nat} {e : List Cel} {es : List (List Cel)} : eqK .ns (.sl fr z (e :: es)) (.g (.slice none n c)) = some false := (rfl)
theorem c4U {n c n' c' : Nat} : eqK .ns (.g (.slice none n' c')) (.g (.slice none n c)) = some true := (rfl)
theorem c6S {k off : Nat} : eqK .np (.bx k off) (.g (.pointer none)) = some false := (rfl)
theorem c3n {cs : List Cel} : eqK .np (.ep cs) (.g (.pointer none)) = some false := (rfl)
theorem c2b : eqK .np (.g (.pointer none)) (.g (.pointer none)) = some true := (rfl)
theorem c6h : eqK .ni (.g .nilIface) (.g .nilIface) = some true := (rfl)
theorem c5P {t : TypeId} {v : Value} : eqK .ni (.g (.iface t v)) (.g .nilIface) = some false := (rfl)
theorem b8N {x : Opd} : c9 d (.nilchk x) s = nlS s d (s.ev x) := by unfold nlS nlR; simp only [c9]; first | done | rfl
theorem d4x {op : BinOp} {x y : Opd} : c9 d (.bin op x y) s = L0 s d op (s.ev x) (s.ev y) := (rfl)
section
variable {k : IntKind} {a b : Int}
theorem c4Y : L0 s d .add (.one (.g (.int k a))) (.one (.g (.int k b))) = .ok (s.put d (.one (.g (.int k (k.wrap (a + b)))))) := by simp [L0, ki]
theorem c4D : L0 s d .sub (.one (.g (.int k a))) (.one (.g (.int k b))) = .ok (s.put d (.one (.g (.int k (k.wrap (a - b)))))) := by simp [L0, ki]
theorem c6J : L0 s d .mul (.one (.g (.int k a))) (.one (.g (.int k b))) = .ok (s.put d (.one (.g (.int k (k.wrap (a * b)))))) := by simp [L0, ki]
theorem c7f : L0 s d .quo (.one (.g (.int k a))) (.one (.g (.int k b))) = .need (b ≠ 0) (s.put d (.one (.g (.int k (k.wrap (a.tdiv b)))))) := by simp [L0, ki]
theorem c2R : L0 s d .rem (.one (.g (.int k a))) (.one (.g (.int k b))) = .need (b ≠ 0) (s.put d (.one (.g (.int k (a.tmod b))))) := by simp [L0, ki]
theorem c1T : L0 s d .eql (.one (.g (.int k a))) (.one (.g (.int k b))) = .ok (s.put d (.one (.g (.bool (decide (a = b)))))) := by
 simp only [L0, bv, if_true]; congr 4
theorem c3Q : L0 s d .neq (.one (.g (.int k a))) (.one (.g (.int k b))) = .ok (s.put d (.one (.g (.bool (decide (a ≠ b)))))) := by
 simp only [L0, bv, if_true]; congr 4; by_cases h : a = b <;> simp [h]
theorem c7c : L0 s d .lss (.one (.g (.int k a))) (.one (.g (.int k b))) = .ok (s.put d (.one (.g (.bool (decide (a < b)))))) := by simp [L0, bv]
theorem c6N : L0 s d .leq (.one (.g (.int k a))) (.one (.g (.int k b))) = .ok (s.put d (.one (.g (.bool (decide (a <= b)))))) := by simp [L0, bv]
theorem c5L : L0 s d .gtr (.one (.g (.int k a))) (.one (.g (.int k b))) = .ok (s.put d (.one (.g (.bool (decide (b < a)))))) := by simp [L0, bv]
theorem c4n : L0 s d .geq (.one (.g (.int k a))) (.one (.g (.int k b))) = .ok (s.put d (.one (.g (.bool (decide (b <= a)))))) := by simp [L0, bv]
theorem c6x : L0 s d .and (.one (.g (.int k a))) (.one (.g (.int k b))) = .ok (s.put d (.one (.g (.int k (bits .and k a b))))) := by simp [L0, ki]
theorem c8l : L0 s d .or (.one (.g (.int k a))) (.one (.g (.int k b))) = .ok (s.put d (.one (.g (.int k (bits .or k a b))))) := by simp [L0, ki]
theorem c3b : L0 s d .xor (.one (.g (.int k a))) (.one (.g (.int k b))) = .ok (s.put d (.one (.g (.int k (bits .xor k a b))))) := by simp [L0, ki]
theorem c4b {k' : IntKind} : L0 s d .shr (.one (.g (.int k a))) (.one (.g (.int k' b))) = .need (0 <= b) (s.put d (.one (.g (.int k (a.fdiv (2 ^ (min b.toNat k.bits))))))) := by cases k <;> cases k' <;> rfl
theorem c6l {k' : IntKind} : L0 s d .shl (.one (.g (.int k a))) (.one (.g (.int k' b))) = .need (0 <= b) (s.put d (.one (.g (.int k (k.wrap (a * 2 ^ (min b.toNat k.bits))))))) := by cases k <;> cases k' <;> rfl
end
section
variable {a b : ByteArray}
theorem c0k : L0 s d .add (.one (.g (.string a))) (.one (.g (.string b))) = .need (((a.size + b.size : Nat) : Int) <= 9223372036854775807) (s.put d (.one (.g (.string (a ++ b))))) := (rfl)
theorem c0z : L0 s d .eql (.one (.g (.string a))) (.one (.g (.string b))) = .ok (s.put d (.one (.g (.bool (a.toList == b.toList))))) := (rfl)
theorem b9p : L0 s d .neq (.one (.g (.string a))) (.one (.g (.string b))) = .ok (s.put d (.one (.g (.bool (!(a.toList == b.toList)))))) := (rfl)
theorem c0s : L0 s d .lss (.one (.g (.string a))) (.one (.g (.string b))) = .ok (s.put d (.one (.g (.bool (Op.bytesLess a.toList b.toList))))) := (rfl)
theorem b8W : L0 s d .leq (.one (.g (.string a))) (.one (.g (.string b))) = .ok (s.put d (.one (.g (.bool (Op.bytesLess a.toList b.toList || a.toList == b.toList))))) := (rfl)
theorem b5L : L0 s d .gtr (.one (.g (.string a))) (.one (.g (.string b))) = .ok (s.put d (.one (.g (.bool (!(Op.bytesLess a.toList b.toList || a.toList == b.toList)))))) := (rfl)
theorem b6h : L0 s d .geq (.one (.g (.string a))) (.one (.g (.string b))) = .ok (s.put d (.one (.g (.bool (!Op.bytesLess a.toList b.toList))))) := (rfl)
end
def unS (s : AS) (d : Option Nat) (op : UnOp) (v : Val) : SRes :=
 match op, v with
 | .not, .one (.g (.bool b)) => .ok (s.put d (bv (!b)))
 | .neg, .one (.g (.int k a)) => .ok (s.put d (ki k (k.wrap (0 - a))))
 | _, _ => .bad
theorem d6J {op : UnOp} {x : Opd} : c9 d (.un op x) s = unS s d op (s.ev x) := by unfold unS; simp only [c9]; first | done | rfl
theorem c9F {b : Bool} : unS s d .not (.one (.g (.bool b))) = .ok (s.put d (.one (.g (.bool (!b))))) := (rfl)
theorem d0E {k : IntKind} {a : Int} : unS s d .neg (.one (.g (.int k a))) = .ok (s.put d (.one (.g (.int k (k.wrap (0 - a)))))) := (rfl)
def cvS (s : AS) (d : Option Nat) (k : IntKind) : Val -> SRes
 | .one (.g (.int _ a)) => .ok (s.put d (ki k (k.wrap a)))
 | _ => .bad
theorem c9M {k : IntKind} {x : Opd} : c9 d (.conv k x) s = cvS s d k (s.ev x) := by unfold cvS; simp only [c9]; first | done | rfl
theorem c6d {k k' : IntKind} {a : Int} : cvS s d k (.one (.g (.int k' a))) = .ok (s.put d (.one (.g (.int k (k.wrap a))))) := (rfl)
def capL (s : AS) : List Opd -> Option (List Cel)
 | [] => some []
 | x :: l => consC (s.ev x) (capL s l)
where consC : Val -> Option (List Cel) -> Option (List Cel)
 | .one (.bx k off), some cs => some (.bx k off :: cs)
 | .one (.g v), some cs => some (.g v :: cs)
 | _, _ => none
theorem b5X : capL s [] = some [] := (rfl)
theorem b2W {x : Opd} {l : List Opd} : capL s (x :: l) = capL.consC (s.ev x) (capL s l) := (rfl)
theorem b7I {k off : Nat} {cs : List Cel} : capL.consC (.one (.bx k off)) (some cs) = some (.bx k off :: cs) := (rfl)
theorem c7g {v : Value} {cs : List Cel} : capL.consC (.one (.g v)) (some cs) = some (.g v :: cs) := (rfl)
def mkS (s : AS) (d : Option Nat) (f : FuncId) : Option (List Cel) -> SRes
 | some cs => .ok (s.put d (.one (.fn f cs)))
 | none => .bad
theorem c0E {f : FuncId} {cs : List Cel} : mkS s d f (some cs) = .ok (s.put d (.one (.fn f cs))) := (rfl)
theorem d0P {f : FuncId} {xs : List Opd} : c9 d (.mkfn f xs) s = mkS s d f (capL s xs) := by
 have h : ∀ ps : List Opd, capL s ps = ps.mapM (fun p => match s.ev p with | .one (.bx k off) => some (Cel.bx k off) | .one (.g v) => some (Cel.g v) | _ => none) := by
  intro ps
  induction ps with
  | nil => rfl
  | cons p ps ih =>
   simp only [capL, ih, List.mapM_cons]
   generalize s.ev p = v
   generalize (ps.mapM (m := Option) _) = r
   cases v <;> try (cases r <;> rfl)
   rename_i c; cases c <;> cases r <;> rfl
 unfold mkS; rw [h]; rfl
def wsR (s : AS) (d : Option Nat) (z k ver : Nat) (l h : Int) : Option Row -> SRes
 | some r => if ver = r.ver ∧ z = r.z then .need (0 <= l ∧ l <= h ∧ h <= r.es.length ∧ 0 < r.es.length) (s.put d (.one (.ws k ver l.toNat h.toNat))) else .bad
 | none => .bad
def slS (s : AS) (d : Option Nat) (z : Nat) (x : Val) (lo hi : Option Val) : SRes :=
 match x, lo, hi with
 | .one (.sl fr z' es), none, none => if z = z' then .ok (s.put d (.one (.sl fr z es))) else .bad
 | .one (.sl fr z' es), some (.one (.g (.int _ l))), none => if z = z' then .need (0 <= l ∧ l <= es.length) (s.put d (.one (.sl fr z (es.drop l.toNat)))) else .bad
 | .one (.sl fr z' es), none, some (.one (.g (.int _ h))) => if z = z' then .need (0 <= h ∧ h <= es.length) (s.put d (.one (.sl fr z (es.take h.toNat)))) else .bad
 | .one (.sl fr z' es), some (.one (.g (.int _ l))), some (.one (.g (.int _ h))) => if z = z' then .need (0 <= l ∧ l <= h ∧ h <= es.length) (s.put d (.one (.sl fr z ((es.take h.toNat).drop l.toNat)))) else .bad
 | .one (.ow k ver), some (.one (.g (.int _ l))), some (.one (.g (.int _ h))) => wsR s d z k ver l h (s.rw k)
 | _, _, _ => .bad
theorem b9P {z k ver v : Nat} {l h : Int} {E : TypeId} {es : List (List Cel)} : wsR s d z k ver l h (some ⟨v, E, z, es⟩) = if ver = v then .need (0 <= l ∧ l <= h ∧ h <= es.length ∧ 0 < es.length) (s.put d (.one (.ws k ver l.toNat h.toNat))) else .bad := by simp [wsR]
theorem d5a {z : Nat} {x : Opd} {lo hi : Option Opd} : c9 d (.slc z x lo hi) s = slS s d z (s.ev x) (lo.map s.ev) (hi.map s.ev) := by unfold slS wsR; simp only [c9]; first | done | rfl
section
variable {fr : Bool} {z : Nat} {es : List (List Cel)} {k k' : IntKind} {l h : Int}
theorem c7Y : slS s d z (.one (.sl fr z es)) none none = .ok (s.put d (.one (.sl fr z es))) := by simp [slS]
theorem d2m : slS s d z (.one (.sl fr z es)) (some (.one (.g (.int k l)))) none = .need (0 <= l ∧ l <= es.length) (s.put d (.one (.sl fr z (es.drop l.toNat)))) := by simp [slS]
theorem d0n : slS s d z (.one (.sl fr z es)) none (some (.one (.g (.int k h)))) = .need (0 <= h ∧ h <= es.length) (s.put d (.one (.sl fr z (es.take h.toNat)))) := by simp [slS]
theorem c8d {j ver : Nat} : slS s d z (.one (.ow j ver)) (some (.one (.g (.int k l)))) (some (.one (.g (.int k' h)))) = wsR s d z j ver l h (s.rw j) := (rfl)
theorem c9Z : slS s d z (.one (.sl fr z es)) (some (.one (.g (.int k l)))) (some (.one (.g (.int k' h)))) = .need (0 <= l ∧ l <= h ∧ h <= es.length) (s.put d (.one (.sl fr z ((es.take h.toNat).drop l.toNat)))) := by simp [slS]
end
def faR (s : AS) (d : Option Nat) (off k ver i o : Nat) : Option Row -> SRes
 | some r => if ver = r.ver then .ok (s.put d (.one (.op k ver i (o + off)))) else .bad
 | none => .bad
theorem b9R {off k ver i o v : Nat} {E : TypeId} {z : Nat} {es : List (List Cel)} : faR s d off k ver i o (some ⟨v, E, z, es⟩) = if ver = v then .ok (s.put d (.one (.op k ver i (o + off)))) else .bad := (rfl)
def faS (s : AS) (d : Option Nat) (off : Nat) : Val -> SRes
 | .one (.bx k o) => .ok (s.put d (.one (.bx k (o + off))))
 | .one (.ep cs) => .ok (s.put d (.one (.ep (cs.drop off))))
 | .one (.op k ver i o) => faR s d off k ver i o (s.rw k)
 | _ => .bad
theorem d1q {off k o : Nat} : faS s d off (.one (.bx k o)) = .ok (s.put d (.one (.bx k (o + off)))) := (rfl)
theorem c8J {off : Nat} {cs : List Cel} : faS s d off (.one (.ep cs)) = .ok (s.put d (.one (.ep (cs.drop off)))) := (rfl)
theorem d2e {off k ver i o : Nat} : faS s d off (.one (.op k ver i o)) = faR s d off k ver i o (s.rw k) := (rfl)
theorem c9e {off : Nat} {x : Opd} : c9 d (.fadr off x) s = faS s d off (s.ev x) := by unfold faS faR; simp only [c9]; first | done | rfl
def flS (s : AS) (d : Option Nat) (off : Nat) (agg : Bool) (n : Nat) : Val -> SRes
 | .ag cs => match agg with
  | true => .need (off + n <= cs.length) (s.put d (.ag ((cs.drop off).take n)))
  | false => flC s d cs[off]?
 | _ => .bad
where flC (s : AS) (d : Option Nat) : Option Cel -> SRes
 | some c => .ok (s.put d (.one c))
 | none => .bad
theorem b9N {c : Cel} : flS.flC s d (some c) = .ok (s.put d (.one c)) := (rfl)
theorem b8v {off n : Nat} {cs : List Cel} : flS s d off true n (.ag cs) = .need (off + n <= cs.length) (s.put d (.ag ((cs.drop off).take n))) := (rfl)
theorem b4K {off n : Nat} {cs : List Cel} : flS s d off false n (.ag cs) = flS.flC s d cs[off]? := (rfl)
def iaR (s : AS) (d : Option Nat) (z k ver : Nat) (n : Int) : Option Row -> SRes
 | some r => if ver = r.ver ∧ z = r.z then .need (0 <= n ∧ n < r.es.length) (s.put d (.one (.op k ver n.toNat 0))) else .bad
 | none => .bad
theorem c0x {z k ver v z' : Nat} {n : Int} {E : TypeId} {es : List (List Cel)} : iaR s d z k ver n (some ⟨v, E, z', es⟩) = if ver = v ∧ z = z' then .need (0 <= n ∧ n < es.length) (s.put d (.one (.op k ver n.toNat 0))) else .bad := (rfl)
def iaQ (s : AS) (d : Option Nat) (z k ver lo : Nat) (n : Int) : Option Row -> SRes
 | some r => if ver = r.ver ∧ z = r.z then .need (0 <= n ∧ lo + n < r.es.length) (s.put d (.one (.op k ver (lo + n.toNat) 0))) else .bad
 | none => .bad
theorem b9g {z k ver lo v z' : Nat} {n : Int} {E : TypeId} {es : List (List Cel)} : iaQ s d z k ver lo n (some ⟨v, E, z', es⟩) = if ver = v ∧ z = z' then .need (0 <= n ∧ lo + n < es.length) (s.put d (.one (.op k ver (lo + n.toNat) 0))) else .bad := (rfl)
def iaS (s : AS) (d : Option Nat) (z : Nat) : Val -> Val -> SRes
 | .one (.sl _ z' es), .one (.g (.int _ n)) => if z = z' then .need (0 <= n ∧ n < es.length) (s.put d (.one (.ep (es.getD n.toNat [])))) else .bad
 | .one (.ow k ver), .one (.g (.int _ n)) => iaR s d z k ver n (s.rw k)
 | .one (.os k ver lo), .one (.g (.int _ n)) => iaQ s d z k ver lo n (s.rw k)
 | _, _ => .bad
theorem d1J {fr : Bool} {z : Nat} {es : List (List Cel)} {k : IntKind} {n : Int} : iaS s d z (.one (.sl fr z es)) (.one (.g (.int k n))) = .need (0 <= n ∧ n < es.length) (s.put d (.one (.ep (es.getD n.toNat [])))) := by simp [iaS]
theorem d1R {z j ver : Nat} {k : IntKind} {n : Int} : iaS s d z (.one (.ow j ver)) (.one (.g (.int k n))) = iaR s d z j ver n (s.rw j) := (rfl)
theorem c8g {z j ver lo : Nat} {k : IntKind} {n : Int} : iaS s d z (.one (.os j ver lo)) (.one (.g (.int k n))) = iaQ s d z j ver lo n (s.rw j) := (rfl)
theorem c8S {z : Nat} {x i : Opd} : c9 d (.iadr z x i) s = iaS s d z (s.ev x) (s.ev i) := by unfold iaS iaR iaQ; simp only [c9]; first | done | rfl
def aaS (s : AS) (d : Option Nat) (n z : Nat) : Val -> Val -> SRes
 | .one (.bx k o), .one (.g (.int _ m)) => .need (0 <= m ∧ m < n) (s.put d (.one (.bx k (o + m.toNat * z))))
 | .one (.ep cs), .one (.g (.int _ m)) => .need (0 <= m ∧ m < n) (s.put d (.one (.ep (cs.drop (m.toNat * z)))))
 | _, _ => .bad
theorem c8L {n z j o : Nat} {k : IntKind} {m : Int} : aaS s d n z (.one (.bx j o)) (.one (.g (.int k m))) = .need (0 <= m ∧ m < n) (s.put d (.one (.bx j (o + m.toNat * z)))) := (rfl)
theorem d0l {n z : Nat} {cs : List Cel} {k : IntKind} {m : Int} : aaS s d n z (.one (.ep cs)) (.one (.g (.int k m))) = .need (0 <= m ∧ m < n) (s.put d (.one (.ep (cs.drop (m.toNat * z))))) := (rfl)
theorem c9r {n z : Nat} {x i : Opd} : c9 d (.aadr n z x i) s = aaS s d n z (s.ev x) (s.ev i) := by unfold aaS; simp only [c9]; first | done | rfl
def ssS (s : AS) (d : Option Nat) (x : Val) (lo hi : Option Val) : SRes :=
 match x, lo, hi with
 | .one (.g (.string b)), none, none => .ok (s.put d (sv b))
 | .one (.g (.string b)), some (.one (.g (.int _ l))), none => .need (0 <= l ∧ l <= b.size) (s.put d (sv (b.extract l.toNat b.size)))
 | .one (.g (.string b)), none, some (.one (.g (.int _ h))) => .need (0 <= h ∧ h <= b.size) (s.put d (sv (b.extract 0 h.toNat)))
 | .one (.g (.string b)), some (.one (.g (.int _ l))), some (.one (.g (.int _ h))) => .need (0 <= l ∧ l <= h ∧ h <= b.size) (s.put d (sv (b.extract l.toNat h.toNat)))
 | _, _, _ => .bad
theorem c7D {x : Opd} {lo hi : Option Opd} : c9 d (.ssub x lo hi) s = ssS s d (s.ev x) (lo.map s.ev) (hi.map s.ev) := by unfold ssS; simp only [c9]; first | done | rfl
section
variable {b : ByteArray} {k k' : IntKind} {l h : Int}
theorem c9O : ssS s d (.one (.g (.string b))) none none = .ok (s.put d (.one (.g (.string b)))) := (rfl)
theorem c9D : ssS s d (.one (.g (.string b))) (some (.one (.g (.int k l)))) none = .need (0 <= l ∧ l <= b.size) (s.put d (.one (.g (.string (b.extract l.toNat b.size))))) := (rfl)
theorem d1m : ssS s d (.one (.g (.string b))) none (some (.one (.g (.int k h)))) = .need (0 <= h ∧ h <= b.size) (s.put d (.one (.g (.string (b.extract 0 h.toNat))))) := (rfl)
theorem d1F : ssS s d (.one (.g (.string b))) (some (.one (.g (.int k l)))) (some (.one (.g (.int k' h)))) = .need (0 <= l ∧ l <= h ∧ h <= b.size) (s.put d (.one (.g (.string (b.extract l.toNat h.toNat))))) := (rfl)
end
def ixS (s : AS) (d : Option Nat) : Val -> Val -> SRes
 | .one (.g (.string b)), .one (.g (.int _ n)) => .need (0 <= n ∧ n < b.size) (s.put d (ki .u8 ((b.data.toList.getD n.toNat 0).toNat)))
 | _, _ => .bad
theorem d4Q {x i : Opd} : c9 d (.idx x i) s = ixS s d (s.ev x) (s.ev i) := by unfold ixS; simp only [c9]; first | done | rfl
theorem d4N {b : ByteArray} {k : IntKind} {n : Int} : ixS s d (.one (.g (.string b))) (.one (.g (.int k n))) = .need (0 <= n ∧ n < b.size) (s.put d (.one (.g (.int .u8 ((b.data.toList.getD n.toNat 0).toNat))))) := (rfl)
def exS (s : AS) (d : Option Nat) (i : Nat) : Val -> SRes
 | .tu vs => exV s d vs[i]?
 | _ => .bad
where exV (s : AS) (d : Option Nat) : Option Val -> SRes
 | some v => .ok (s.put d v)
 | none => .bad
theorem c9G {x : Opd} {i : Nat} : c9 d (.extr x i) s = exS s d i (s.ev x) := by unfold exS exS.exV; simp only [c9]; first | done | rfl
theorem c9d {i : Nat} {vs : List Val} : exS s d i (.tu vs) = exS.exV s d vs[i]? := (rfl)
theorem b9n {v : Val} : exS.exV s d (some v) = .ok (s.put d v) := (rfl)
def lnR (s : AS) (d : Option Nat) (ver : Nat) : Option Row -> SRes
 | some r => if ver = r.ver then .ok (s.put d (iv r.es.length)) else .bad
 | none => .bad
theorem b6n {ver v z : Nat} {E : TypeId} {es : List (List Cel)} : lnR s d ver (some ⟨v, E, z, es⟩) = if ver = v then .ok (s.put d (.one (.g (.int .i64 es.length)))) else .bad := (rfl)
def lnQ (s : AS) (d : Option Nat) (ver lo : Nat) : Option Row -> SRes
 | some r => if ver = r.ver then .ok (s.put d (iv (r.es.length - lo))) else .bad
 | none => .bad
theorem b7F {ver lo v z : Nat} {E : TypeId} {es : List (List Cel)} : lnQ s d ver lo (some ⟨v, E, z, es⟩) = if ver = v then .ok (s.put d (.one (.g (.int .i64 (es.length - lo))))) else .bad := (rfl)
def lnS (s : AS) (d : Option Nat) : Val -> SRes
 | .one (.sl _ _ es) => .ok (s.put d (iv es.length))
 | .one (.g (.slice _ n _)) => .ok (s.put d (iv n))
 | .one (.ow k ver) => lnR s d ver (s.rw k)
 | .one (.os k ver lo) => lnQ s d ver lo (s.rw k)
 | _ => .bad
theorem d0f {k ver lo : Nat} : lnS s d (.one (.os k ver lo)) = lnQ s d ver lo (s.rw k) := (rfl)
theorem d4p {x : Opd} : c9 d (.len x) s = lnS s d (s.ev x) := by unfold lnS lnR lnQ; simp only [c9]; first | done | rfl
theorem d2p {fr : Bool} {z : Nat} {es : List (List Cel)} : lnS s d (.one (.sl fr z es)) = .ok (s.put d (.one (.g (.int .i64 es.length)))) := (rfl)
theorem c2w {a : Option Addr} {n c : Nat} : lnS s d (.one (.g (.slice a n c))) = .ok (s.put d (.one (.g (.int .i64 n)))) := (rfl)
theorem c9w {k ver : Nat} : lnS s d (.one (.ow k ver)) = lnR s d ver (s.rw k) := (rfl)
def d3l (s : AS) (d : Option Nat) : Val -> SRes
 | .one (.g (.string b)) => .ok (s.put d (iv b.size))
 | _ => .bad
theorem d0U {x : Opd} : c9 d (.slen x) s = d3l s d (s.ev x) := by unfold d3l; simp only [c9]; first | done | rfl
theorem c8y {b : ByteArray} : d3l s d (.one (.g (.string b))) = .ok (s.put d (.one (.g (.int .i64 b.size)))) := (rfl)
def mxS (s : AS) (d : Option Nat) (mx : Bool) : Val -> Val -> SRes
 | .one (.g (.int k a)), .one (.g (.int _ b)) => .ok (s.put d (ki k (if mx then (if b > a then b else a) else (if b < a then b else a))))
 | _, _ => .bad
theorem d4A {mx : Bool} {x y : Opd} : c9 d (.mnx mx x y) s = mxS s d mx (s.ev x) (s.ev y) := by unfold mxS; simp only [c9]; rfl
theorem c6n {k k' : IntKind} {a b : Int} : mxS s d true (.one (.g (.int k a))) (.one (.g (.int k' b))) = .ok (s.put d (.one (.g (.int k (max a b))))) := by
 simp only [mxS, ki, if_true]; congr 5; rw [Int.max_def]; split <;> split <;> omega
theorem c1X {k k' : IntKind} {a b : Int} : mxS s d false (.one (.g (.int k a))) (.one (.g (.int k' b))) = .ok (s.put d (.one (.g (.int k (min a b))))) := by
 simp only [mxS, ki, Bool.false_eq_true, if_false]; congr 5; rw [Int.min_def]; split <;> split <;> omega
def apR (s : AS) (d : Option Nat) (E : TypeId) (z bytes k ver : Nat) (es : List (List Cel)) : Option Row -> SRes
 | some r => if ver = r.ver ∧ E = r.E ∧ z = r.z then
   .need ((r.es.length + es.length) * bytes <= 140737488355328 ∧ r.es.length + es.length <= 9223372036854775807)
    ({ s with rw := upd s.rw k (some { r with ver := r.ver + 1, es := r.es ++ es }) }.put d (.one (.ow k (r.ver + 1)))) else .bad
 | none => .bad
theorem a8g {z bytes k ver v : Nat} {E : TypeId} {es es0 : List (List Cel)} : apR s d E z bytes k ver es (some ⟨v, E, z, es0⟩) = if ver = v then
   .need ((es0.length + es.length) * bytes <= 140737488355328 ∧ es0.length + es.length <= 9223372036854775807)
    ({ s with rw := upd s.rw k (some ⟨v + 1, E, z, es0 ++ es⟩) }.put d (.one (.ow k (v + 1)))) else .bad := by simp [apR]
def apS (s : AS) (d : Option Nat) (E : TypeId) (z bytes : Nat) : Val -> Option (List (List Cel)) -> SRes
 | .one (.ow k ver), some es => apR s d E z bytes k ver es (s.rw k)
 | _, _ => .bad
theorem c1Q {E : TypeId} {z bytes k ver : Nat} {es : List (List Cel)} : apS s d E z bytes (.one (.ow k ver)) (some es) = apR s d E z bytes k ver es (s.rw k) := (rfl)
theorem e_append {E : TypeId} {z bytes : Nat} {x y : Opd} : c9 d (.append E z bytes x y) s = apS s d E z bytes (s.ev x) (s.src z (s.ev y)) := by unfold apS apR; simp only [c9]; first | done | rfl
theorem d3f {z : Nat} {es : List (List Cel)} : s.src z (.one (.sl true z es)) = some (a0k es) := by simp [AS.src]
theorem d4d {z : Nat} {es : List (List Cel)} : s.src z (.one (.sl false z es)) = some (F8 es) := by simp [AS.src]
theorem c6D {z c : Nat} : s.src z (.one (.g (.slice none 0 c))) = some [] := (rfl)
def d4Z (z ver : Nat) : Option Row -> Option (List (List Cel))
 | some r => if ver = r.ver ∧ r.z = z then some r.es else none
 | none => none
theorem b1m {z ver v : Nat} {E : TypeId} {es : List (List Cel)} : d4Z z ver (some ⟨v, E, z, es⟩) = if ver = v then some es else none := by simp [d4Z]
theorem c9z {z k ver : Nat} : s.src z (.one (.ow k ver)) = d4Z z ver (s.rw k) := (rfl)
theorem a7A : F8 [] = [] := (rfl)
theorem a1S {e : List Cel} {es : List (List Cel)} : F8 (e :: es) = e.map Cel.dat :: F8 es := (rfl)
theorem c0f : a0k [] = [] := (rfl)
theorem b3W {e : List Cel} {es : List (List Cel)} : a0k (e :: es) = e.map Cel.tof :: a0k es := (rfl)
theorem d3j {v : Value} : (Cel.g v).tof = .g v := (rfl)
theorem c9s {fr : Bool} {z : Nat} {es : List (List Cel)} : (Cel.sl fr z es).tof = .sl true z es := (rfl)
theorem c2F : Cel.any.tof = .any := (rfl)
theorem c5k : frE [] = true := (rfl)
theorem b8O {e : List Cel} {es : List (List Cel)} : frE (e :: es) = (e.all o6 && frE es) := (rfl)
theorem c6z {es fs : List (List Cel)} : frE (es ++ fs) = (frE es && frE fs) := by simp [frE]
theorem a8R {es fs : List (List Cel)} : F8 (es ++ fs) = F8 es ++ F8 fs := by simp [F8]
theorem b7r {es fs : List (List Cel)} : a0k (es ++ fs) = a0k es ++ a0k fs := by simp [a0k]
def sfR (s : AS) (d : Option Nat) (z k ver : Nat) (l : Int) : Option Row -> SRes
 | some r => if ver = r.ver ∧ z = r.z then .need (0 <= l ∧ l <= r.es.length ∧ 0 < r.es.length) (s.put d (.one (.os k ver l.toNat))) else .bad
 | none => .bad
theorem b9j {z k ver v : Nat} {l : Int} {E : TypeId} {es : List (List Cel)} : sfR s d z k ver l (some ⟨v, E, z, es⟩) = if ver = v then .need (0 <= l ∧ l <= es.length ∧ 0 < es.length) (s.put d (.one (.os k ver l.toNat))) else .bad := by simp [sfR]
def sfS (s : AS) (d : Option Nat) (z : Nat) : Val -> Val -> SRes
 | .one (.ow k ver), .one (.g (.int _ l)) => sfR s d z k ver l (s.rw k)
 | _, _ => .bad
theorem d2w {z k ver : Nat} {kk : IntKind} {l : Int} : sfS s d z (.one (.ow k ver)) (.one (.g (.int kk l))) = sfR s d z k ver l (s.rw k) := (rfl)
theorem d4r {z : Nat} {x y : Opd} : c9 d (.sfx z x y) s = sfS s d z (s.ev x) (s.ev y) := by unfold sfS sfR; simp only [c9]; first | done | rfl
def tnR (s : AS) (d : Option Nat) (z k ver : Nat) (h : Int) : Option Row -> SRes
 | some r => if ver = r.ver ∧ z = r.z then .need (0 <= h ∧ h <= r.es.length ∧ 0 < r.es.length) ({ s with rw := upd s.rw k (some { r with ver := r.ver + 1, es := r.es.take h.toNat }) }.put d (.one (.ow k (r.ver + 1)))) else .bad
 | none => .bad
theorem b6c {z k ver v : Nat} {h : Int} {E : TypeId} {es : List (List Cel)} : tnR s d z k ver h (some ⟨v, E, z, es⟩) = if ver = v then .need (0 <= h ∧ h <= es.length ∧ 0 < es.length) ({ s with rw := upd s.rw k (some ⟨v + 1, E, z, es.take h.toNat⟩) }.put d (.one (.ow k (v + 1)))) else .bad := by simp [tnR]
def tnS (s : AS) (d : Option Nat) (z : Nat) : Val -> Val -> SRes
 | .one (.ow k ver), .one (.g (.int _ l)) => tnR s d z k ver l (s.rw k)
 | _, _ => .bad
theorem c8r {z k ver : Nat} {kk : IntKind} {l : Int} : tnS s d z (.one (.ow k ver)) (.one (.g (.int kk l))) = tnR s d z k ver l (s.rw k) := (rfl)
theorem d4X {z : Nat} {x y : Opd} : c9 d (.trn z x y) s = tnS s d z (s.ev x) (s.ev y) := by unfold tnS tnR; simp only [c9]; first | done | rfl
def c9X (s : AS) (d : Option Nat) (E : TypeId) (z : Nat) (zero : List Value) (k ver lo : Nat) : Option Row -> SRes
 | some r => if ver = r.ver ∧ E = r.E ∧ z = r.z ∧ zero.length = z then .ok ({ s with rw := upd s.rw k (some { r with es := r.es.take lo ++ List.replicate (r.es.length - lo) (zero.map Cel.g) }) }.put d .any) else .bad
 | none => .bad
theorem b4m {z k ver lo v : Nat} {zero : List Value} {E : TypeId} {es : List (List Cel)} : c9X s d E z zero k ver lo (some ⟨v, E, z, es⟩) = if ver = v ∧ zero.length = z then .ok ({ s with rw := upd s.rw k (some ⟨v, E, z, es.take lo ++ List.replicate (es.length - lo) (zero.map Cel.g)⟩) }.put d .any) else .bad := by simp [c9X]
def d4o (s : AS) (d : Option Nat) (E : TypeId) (z : Nat) (zero : List Value) : Val -> SRes
 | .one (.os k ver lo) => c9X s d E z zero k ver lo (s.rw k)
 | _ => .bad
theorem c6T {E : TypeId} {z k ver lo : Nat} {zero : List Value} : d4o s d E z zero (.one (.os k ver lo)) = c9X s d E z zero k ver lo (s.rw k) := (rfl)
theorem d3R {E : TypeId} {z : Nat} {zero : List Value} {x : Opd} : c9 d (.clr E z zero x) s = d4o s d E z zero (s.ev x) := by unfold d4o c9X; simp only [c9]; first | done | rfl
def d4Y (s : AS) (k kc : Nat) : Option Row -> SRes
 | none => if k < XK then .ok { s with tm := upd s.tm k (.one (.mp k)), rw := upd s.rw k (some ⟨0, kc, 0, []⟩) } else .bad
 | some _ => .bad
theorem b2A {k kc : Nat} : d4Y s k kc none = if k < XK then .ok { s with tm := upd s.tm k (.one (.mp k)), rw := upd s.rw k (some ⟨0, kc, 0, []⟩) } else .bad := (rfl)
theorem d3v {k kc : Nat} : c9 (some k) (.mkm kc) s = d4Y s k kc (s.rw k) := by
 simp only [c9]
 unfold d4Y
 grind
def d2n (s : AS) (d : Option Nat) (kc k : Nat) (kv : Value) (c : Cel) : Option Row -> SRes
 | some r => if r.z = 0 ∧ r.E = kc ∧ l8 kc kv = true ∧ c.isD = true then .ok ({ s with rw := upd s.rw k (some { r with es := a4u kv c r.es }) }.put d .any) else .bad
 | none => .bad
theorem b2R {kc k v E : Nat} {kv : Value} {c : Cel} {es : List (List Cel)} : d2n s d kc k kv c (some ⟨v, E, 0, es⟩) = if E = kc ∧ l8 kc kv = true ∧ c.isD = true then .ok ({ s with rw := upd s.rw k (some ⟨v, E, 0, a4u kv c es⟩) }.put d .any) else .bad := by simp [d2n]
def d3T (s : AS) (d : Option Nat) (kc : Nat) : Val -> Val -> Option Cel -> SRes
 | .one (.mp k), .one (.g kv), some c => d2n s d kc k kv c (s.rw k)
 | _, _, _ => .bad
theorem c2Q {kc k : Nat} {kv : Value} {c : Cel} : d3T s d kc (.one (.mp k)) (.one (.g kv)) (some c) = d2n s d kc k kv c (s.rw k) := (rfl)
def d1i (s : AS) (d : Option Nat) (kc k : Nat) (kv : Value) : Option Row -> SRes
 | some r => if r.z = 0 ∧ r.E = kc ∧ l8 kc kv = true then .ok ({ s with rw := upd s.rw k (some { r with es := a9E kv r.es }) }.put d .any) else .bad
 | none => .bad
theorem b1y {kc k v E : Nat} {kv : Value} {es : List (List Cel)} : d1i s d kc k kv (some ⟨v, E, 0, es⟩) = if E = kc ∧ l8 kc kv = true then .ok ({ s with rw := upd s.rw k (some ⟨v, E, 0, a9E kv es⟩) }.put d .any) else .bad := by simp [d1i]
def d2N (s : AS) (d : Option Nat) (kc : Nat) : Val -> Val -> SRes
 | .one (.mp k), .one (.g kv) => d1i s d kc k kv (s.rw k)
 | _, _ => .bad
theorem c6i {kc k : Nat} {kv : Value} : d2N s d kc (.one (.mp k)) (.one (.g kv)) = d1i s d kc k kv (s.rw k) := (rfl)
theorem d4w {kc : Nat} {x y : Opd} : c9 d (.mdl kc x y) s = d2N s d kc (s.ev x) (s.ev y) := by unfold d2N d1i; simp only [c9]; first | done | rfl
attribute [go_sem] d1K b1y c6i d4w
theorem d5b {kc : Nat} {x y z : Opd} : c9 d (.mup kc x y z) s = d3T s d kc (s.ev x) (s.ev y) (b0u kc (s.ev z)) := by unfold d3T d2n; simp only [c9]; first | done | rfl
theorem c9V {c : Cel} : b0u 0 (.one c) = some c := (rfl)
theorem d1p {c : Cel} : b0u 4 (.one c) = some c := (rfl)
theorem b4B {a b : Value} : b0u 16 (.ag [.g a, .g b]) = some (.g (.iface 0 (.agg #[a, b]))) := (rfl)
theorem b2B {a b : Value} : b0u 20 (.ag [.g a, .g b]) = some (.g (.iface 0 (.agg #[a, b]))) := (rfl)
theorem b4C {a b c : Value} : b0u 16 (.ag [.g a, .g b, .g c]) = some (.g (.iface 0 (.agg #[a, b, c]))) := (rfl)
theorem b3O {a b c : Value} : b0u 20 (.ag [.g a, .g b, .g c]) = some (.g (.iface 0 (.agg #[a, b, c]))) := (rfl)
theorem c9T {c : Cel} : a2O 0 c = .one c := (rfl)
theorem c7S {c : Cel} : a2O 4 c = .one c := (rfl)
theorem c4j {c : Cel} : a2O 16 c = c7r c := (rfl)
theorem c3X {c : Cel} : a2O 20 c = c7r c := (rfl)
theorem d1N {t : TypeId} {a b : Value} : c7r (.g (.iface t (.agg #[a, b]))) = .ag [.g a, .g b] := (rfl)
theorem c9m {t : TypeId} {a b c : Value} : c7r (.g (.iface t (.agg #[a, b, c]))) = .ag [.g a, .g b, .g c] := (rfl)
theorem c5U {zn : Nat} {t : TypeId} {v : Value} : a0d zn (.iface t v) = .g (.iface t v) := (rfl)
theorem a7l {n : Int} : l8 20 (.int .i64 n) = true := (rfl)
theorem a6I {b : ByteArray} : l8 16 (.string b) = true := (rfl)
def c4v (s : AS) (d : Option Nat) (kc : Nat) (zero : Value) (ok : Bool) (kv : Value) : Option Row -> SRes
 | some r => if r.z = 0 ∧ r.E = kc ∧ l8 kc kv = true then .ok (s.put d (if ok then .tu [a2O kc ((Z3 kv r.es).getD (.g zero)), bv (Z3 kv r.es).isSome] else a2O kc ((Z3 kv r.es).getD (.g zero)))) else .bad
 | none => .bad
theorem c8n {kc v E : Nat} {zero kv : Value} {es : List (List Cel)} : c4v s d kc zero false kv (some ⟨v, E, 0, es⟩) = if E = kc ∧ l8 kc kv = true then .ok (s.put d (a2O kc ((Z3 kv es).getD (.g zero)))) else .bad := by simp [c4v]
theorem c7u {kc v E : Nat} {zero kv : Value} {es : List (List Cel)} : c4v s d kc zero true kv (some ⟨v, E, 0, es⟩) = if E = kc ∧ l8 kc kv = true then .ok (s.put d (.tu [a2O kc ((Z3 kv es).getD (.g zero)), bv (Z3 kv es).isSome])) else .bad := by simp [c4v]
def c9U (s : AS) (d : Option Nat) (kc : Nat) (zero : Value) (ok : Bool) (zn : Nat) : Val -> Val -> SRes
 | .one (.mp k), .one (.g kv) => c4v s d kc zero ok kv (s.rw k)
 | .one (.fm kc' es), .one (.g kv) => if kc' = kc ∧ l8 kc kv = true then .ok (s.put d (if ok then .tu [a2O kc ((O7 kv es).getD (a0d zn zero)), bv (O7 kv es).isSome] else a2O kc ((O7 kv es).getD (a0d zn zero)))) else .bad
 | _, _ => .bad
theorem b7A {kc kc' zn : Nat} {zero kv : Value} {es : List (List Cel)} : c9U s d kc zero false zn (.one (.fm kc' es)) (.one (.g kv)) = if kc' = kc ∧ l8 kc kv = true then .ok (s.put d (a2O kc ((O7 kv es).getD (a0d zn zero)))) else .bad := (rfl)
theorem b6R {kc kc' zn : Nat} {zero kv : Value} {es : List (List Cel)} : c9U s d kc zero true zn (.one (.fm kc' es)) (.one (.g kv)) = if kc' = kc ∧ l8 kc kv = true then .ok (s.put d (.tu [a2O kc ((O7 kv es).getD (a0d zn zero)), bv (O7 kv es).isSome])) else .bad := (rfl)
theorem c5G {zn : Nat} {b : Bool} : a0d zn (.bool b) = .g (.bool b) := (rfl)
theorem c6R {zn : Nat} {k : IntKind} {n : Int} : a0d zn (.int k n) = .g (.int k n) := (rfl)
theorem c5m {zn : Nat} : a0d zn (.slice none 0 0) = if zn = 0 then .g (.slice none 0 0) else .sl false zn [] := (rfl)
theorem c2a {kc k zn : Nat} {zero kv : Value} {ok : Bool} : c9U s d kc zero ok zn (.one (.mp k)) (.one (.g kv)) = c4v s d kc zero ok kv (s.rw k) := (rfl)
theorem d5h {kc zn : Nat} {zero : Value} {ok : Bool} {x y : Opd} : c9 d (.mlk kc zero ok zn x y) s = c9U s d kc zero ok zn (s.ev x) (s.ev y) := by unfold c9U c4v; simp only [c9]; first | done | rfl
theorem b3S {n : Int} : l8 4 (.int .i64 n) = true := (rfl)
theorem b3j {b : ByteArray} : l8 0 (.string b) = true := (rfl)
def d3r {α β : Type} [BEq α] (k : α) : List (α × β) -> Option β
 | [] => none
 | p :: l => if k == p.1 then some p.2 else d3r k l
def d3J {α β : Type} [BEq α] (k : α) (v : β) : List (α × β) -> List (α × β)
 | [] => [(k, v)]
 | p :: l => if k == p.1 then (k, v) :: l else p :: d3J k v l
def mII (l : List (Int × Int)) : List (List Cel) := l.map fun p => [.g (.int .i64 p.1), .g (.int .i64 p.2)]
theorem b4G {q : IntKind} {n : Int} : ∀ {l : List (Int × Int)}, Z3 (.int q n) (mII l) = (d3r n l).map fun v => .g (.int .i64 v)
 | [] => rfl
 | p :: l => by
  have ih := b4G (q := q) (n := n) (l := l)
  have e : a2U (.int q n) [.g (.int .i64 p.1), .g (.int .i64 p.2)] = (n == p.1) := rfl
  have e1 : mII (p :: l) = [.g (.int .i64 p.1), .g (.int .i64 p.2)] :: mII l := rfl
  rw [e1, Z3, d3r]
  all_goals grind
theorem b5d {n v : Int} : ∀ {l : List (Int × Int)}, a4u (.int .i64 n) (.g (.int .i64 v)) (mII l) = mII (d3J n v l)
 | [] => rfl
 | p :: l => by
  have ih := b5d (n := n) (v := v) (l := l)
  have e : a2U (.int .i64 n) [.g (.int .i64 p.1), .g (.int .i64 p.2)] = (n == p.1) := rfl
  have e1 : mII (p :: l) = [.g (.int .i64 p.1), .g (.int .i64 p.2)] :: mII l := rfl
  rw [e1, a4u, d3J]
  by_cases h : (n == p.1) = true
  ·rw [if_pos (e.trans h), if_pos h]; rfl
  ·rw [if_neg (fun h' => h (e.symm.trans h')), if_neg h, ih]; rfl
theorem c3K {q : IntKind} {o : Option Int} {z : Int} : (o.map fun v => Cel.g (.int q v)).getD (.g (.int q z)) = .g (.int q (o.getD z)) := by cases o <;> rfl
theorem b4w {q : IntKind} {o : Option Int} : (o.map fun v => Cel.g (.int q v)).isSome = o.isSome := by cases o <;> rfl
def mkR (s : AS) (k : Nat) (E : TypeId) (z bytes : Nat) (zero : List Value) (m m' : Int) : Option Row -> SRes
 | none => if k < XK ∧ 0 < z ∧ zero.length = z then .need (0 <= m ∧ m' = m ∧ m * bytes <= 281474976710656 ∧ m <= 9223372036854775807) { s with tm := upd s.tm k (.one (.ow k 0)), rw := upd s.rw k (some ⟨0, E, z, List.replicate m.toNat (zero.map Cel.g)⟩) } else .bad
 | some _ => .bad
theorem b7t {k : Nat} {E : TypeId} {z bytes : Nat} {zero : List Value} {m m' : Int} : mkR s k E z bytes zero m m' none = if k < XK ∧ 0 < z ∧ zero.length = z then .need (0 <= m ∧ m' = m ∧ m * bytes <= 281474976710656 ∧ m <= 9223372036854775807) { s with tm := upd s.tm k (.one (.ow k 0)), rw := upd s.rw k (some ⟨0, E, z, List.replicate m.toNat (zero.map Cel.g)⟩) } else .bad := (rfl)
def d3X (s : AS) (k : Nat) (E : TypeId) (z bytes : Nat) (zero : List Value) : Val -> Val -> SRes
 | .one (.g (.int _ m)), .one (.g (.int _ m')) => mkR s k E z bytes zero m m' (s.rw k)
 | _, _ => .bad
theorem b8P {k : Nat} {E : TypeId} {z bytes : Nat} {zero : List Value} {kk kk' : IntKind} {m m' : Int} : d3X s k E z bytes zero (.one (.g (.int kk m))) (.one (.g (.int kk' m'))) = mkR s k E z bytes zero m m' (s.rw k) := (rfl)
theorem d3D {k : Nat} {E : TypeId} {z b : Nat} {zero : List Value} {x y : Opd} : c9 (some k) (.mkr E z b zero x y) s = d3X s k E z b zero (s.ev x) (s.ev y) := by
 simp only [c9]
 generalize s.ev x = u
 generalize s.ev y = w
 unfold d3X mkR
 grind
/-! views, what stays, what is handed back -/
theorem b6x {c : Cel} : s.view (.one c) = .one (s.viewC c) := (rfl)
theorem c3A {cs : List Cel} : s.view (.ag cs) = .ag (cs.map s.viewC) := (rfl)
theorem c6I {v : Value} : s.viewC (.g v) = .g v := (rfl)
def mpR : Option Row -> Cel
 | some r => .fm r.E r.es
 | none => .any
theorem b5R {v z : Nat} {E : TypeId} {es : List (List Cel)} : mpR (some ⟨v, E, z, es⟩) = .fm E es := (rfl)
theorem b7K {k : Nat} : s.viewC (.mp k) = mpR (s.rw k) := (rfl)
theorem b7V {kc : Nat} {es : List (List Cel)} : s.viewC (.fm kc es) = .fm kc es := (rfl)
theorem b5g {kc : Nat} {es : List (List Cel)} : s.viewC0 (.fm kc es) = .fm kc es := (rfl)
theorem b7o {kc : Nat} {es : List (List Cel)} : s.dataV (.fm kc es) = .fm kc es := (rfl)
theorem c2E {kc : Nat} {es : List (List Cel)} : s.finC (.fm kc es) = .fm kc es := (rfl)
theorem c4T {K : Kp} {kc : Nat} {es : List (List Cel)} : s.renC K (.fm kc es) = .fm kc es := (rfl)
theorem b3G {kc : Nat} {es : List (List Cel)} : C8 (.fm kc es) = true := (rfl)
theorem c0y {m : CAnn} {kc : Nat} {es : List (List Cel)} : s.passC m (.fm kc es) = .fm kc es := (rfl)
theorem b5B {m : CAnn} {kc : Nat} {es : List (List Cel)} : s.backC m (.fm kc es) = .fm kc es := (rfl)
theorem d0j {kc : Nat} {es : List (List Cel)} : Cel.dat (.fm kc es) = .fm kc es := (rfl)
theorem b4L : s.viewC .any = .any := (rfl)
theorem b7j {fr : Bool} {z : Nat} {es : List (List Cel)} : s.viewC (.sl fr z es) = .sl false z es := (rfl)
theorem b6X {cs : List Cel} : s.viewC (.ep cs) = .ep cs := (rfl)
theorem c0j {f : FuncId} {cs : List Cel} : s.viewC (.fn f cs) = .fn f (cs.map s.viewC0) := (rfl)
def vwR (ver : Nat) : Option Row -> Cel
 | some r => if ver = r.ver then .sl false r.z r.es else .any
 | none => .any
theorem b7N {ver v z : Nat} {E : TypeId} {es : List (List Cel)} : vwR ver (some ⟨v, E, z, es⟩) = if ver = v then .sl false z es else .any := (rfl)
def vwW (ver lo hi : Nat) : Option Row -> Cel
 | some r => if ver = r.ver then .sl false r.z ((r.es.take hi).drop lo) else .any
 | none => .any
theorem b7e {v ver lo hi z : Nat} {E : TypeId} {es : List (List Cel)} : vwW ver lo hi (some ⟨v, E, z, es⟩) = if ver = v then .sl false z ((es.take hi).drop lo) else .any := (rfl)
theorem b8s {k ver lo hi : Nat} : s.viewC (.ws k ver lo hi) = vwW ver lo hi (s.rw k) := (rfl)
theorem b7W {k ver : Nat} : s.viewC (.ow k ver) = vwR ver (s.rw k) := (rfl)
def vwB (s : AS) (off : Nat) : Option (List Cel) -> Cel
 | some cs => .ep ((cs.drop off).map s.dataV)
 | none => .any
theorem b7E {off : Nat} {cs : List Cel} : vwB s off (some cs) = .ep ((cs.drop off).map s.dataV) := (rfl)
theorem b7x {k off : Nat} : s.viewC (.bx k off) = vwB s off (s.bx k) := (rfl)
theorem b5h {k off : Nat} : s.viewC0 (.bx k off) = vwB s off (s.bx k) := (rfl)
theorem b2F {cs : List Cel} : s.viewC0 (.ep cs) = .ep cs := (rfl)
theorem b7w {v : Value} : s.viewC0 (.g v) = .g v := (rfl)
theorem c6F {v : Value} : s.dataV (.g v) = .g v := (rfl)
theorem b9U {fr : Bool} {z : Nat} {es : List (List Cel)} : s.dataV (.sl fr z es) = .sl false z es := (rfl)
theorem b6f {k ver : Nat} : s.dataV (.ow k ver) = vwR ver (s.rw k) := (rfl)
theorem b7H {k : Nat} : s.dataV (.mp k) = mpR (s.rw k) := (rfl)
theorem b4i : s.dataV .any = .any := (rfl)
theorem c3W {c : Cel} : s.fin (.one c) = .one (s.finC c) := (rfl)
theorem c8X {cs : List Cel} : s.fin (.ag cs) = .ag (cs.map s.finC) := (rfl)
theorem d0H {v : Value} : s.finC (.g v) = .g v := (rfl)
def mpF (k : Nat) : Option Row -> Cel
 | some r => if k < XK then .fm r.E r.es else .any
 | none => .any
theorem b5x {k v z : Nat} {E : TypeId} {es : List (List Cel)} : mpF k (some ⟨v, E, z, es⟩) = if k < 1000000 then .fm E es else .any := (rfl)
theorem c2A {k : Nat} : s.finC (.mp k) = mpF k (s.rw k) := (rfl)
theorem c0m : s.finC .any = .any := (rfl)
theorem c4W {fr : Bool} {z : Nat} {es : List (List Cel)} : s.finC (.sl fr z es) = .sl fr z es := (rfl)
theorem c3F {cs : List Cel} : s.finC (.ep cs) = .ep cs := (rfl)
def fnR (k ver : Nat) : Option Row -> Cel
 | some r => if ver = r.ver then (if k < XK then .sl (frE r.es) r.z r.es else .any) else .any
 | none => .any
theorem a8K {k ver v z : Nat} {E : TypeId} {es : List (List Cel)} : fnR k ver (some ⟨v, E, z, es⟩) = if ver = v then (if k < XK then .sl (frE es) z es else .any) else .any := (rfl)
theorem c2v {k ver : Nat} : s.finC (.ow k ver) = fnR k ver (s.rw k) := (rfl)
theorem d4U : XK = 1000000 := (rfl)
def a5h (s : AS) (K : Kp) : List Nat -> List (Nat × Val)
 | [] => []
 | t :: l => (t, s.ren K (s.tm t)) :: a5h s K l
theorem b2H {K : Kp} : a5h s K [] = [] := (rfl)
theorem b0g {K : Kp} {t : Nat} {l : List Nat} : a5h s K (t :: l) = (t, s.ren K (s.tm t)) :: a5h s K l := (rfl)
def keepB (s : AS) (K : Kp) : List Nat -> List (Nat × List Cel)
 | [] => []
 | k :: l => kpB s K k (s.bx k) (keepB s K l)
where kpB (s : AS) (K : Kp) (k : Nat) : Option (List Cel) -> List (Nat × List Cel) -> List (Nat × List Cel)
 | some cs, l => (k, cs.map (s.renC K)) :: l
 | none, l => l
theorem b4a {K : Kp} : keepB s K [] = [] := (rfl)
theorem a9z {K : Kp} {k : Nat} {l : List Nat} : keepB s K (k :: l) = keepB.kpB s K k (s.bx k) (keepB s K l) := (rfl)
theorem b7O {K : Kp} {k : Nat} {cs : List Cel} {l : List (Nat × List Cel)} : keepB.kpB s K k (some cs) l = (k, cs.map (s.renC K)) :: l := (rfl)
theorem b8p {K : Kp} {k : Nat} {l : List (Nat × List Cel)} : keepB.kpB s K k none l = l := (rfl)
def keepR (s : AS) (K : Kp) : List Nat -> List (Nat × Row)
 | [] => []
 | k :: l => kpR K k (s.rw k) (keepR s K l)
where kpR (K : Kp) (k : Nat) : Option Row -> List (Nat × Row) -> List (Nat × Row)
 | some r, l => (k, { r with ver := K.q k r.ver }) :: l
 | none, l => l
theorem b4c {K : Kp} : keepR s K [] = [] := (rfl)
theorem a9x {K : Kp} {k : Nat} {l : List Nat} : keepR s K (k :: l) = keepR.kpR K k (s.rw k) (keepR s K l) := (rfl)
theorem b9I {ts bs rs : List Nat} {q : Nat -> Nat -> Nat} {k v z : Nat} {E : TypeId} {es : List (List Cel)} {l : List (Nat × Row)} : keepR.kpR ⟨ts, bs, rs, q⟩ k (some ⟨v, E, z, es⟩) l = (k, ⟨q k v, E, z, es⟩) :: l := (rfl)
theorem b7Z {K : Kp} {k : Nat} {l : List (Nat × Row)} : keepR.kpR K k none l = l := (rfl)
theorem b8a {K : Kp} : s.keepK K = ⟨m7 (a5h s K K.ts), f7 (keepB s K K.bs), f7 (keepR s K K.rs)⟩ := by
 have h1 : ∀ l, a5h s K l = l.map fun t => (t, s.ren K (s.tm t)) := by
  intro l; induction l with
  | nil => rfl
  | cons t l ih => simp only [a5h, ih, List.map_cons]
 have h2 : ∀ l, keepB s K l = l.filterMap fun k => (s.bx k).map fun cs => (k, cs.map (s.renC K)) := by
  intro l; induction l with
  | nil => rfl
  | cons t l ih => simp only [keepB, ih, List.filterMap_cons]; cases s.bx t <;> rfl
 have h3 : ∀ l, keepR s K l = l.filterMap fun k => (s.rw k).map fun r => (k, { r with ver := K.q k r.ver }) := by
  intro l; induction l with
  | nil => rfl
  | cons t l ih => simp only [keepR, ih, List.filterMap_cons]; cases s.rw t <;> rfl
 rw [h1, h2, h3]; rfl
theorem b4s {ts bs rs : List Nat} : s.keep (some ⟨ts, bs, rs⟩) = ⟨m7 (a5h s ⟨ts, bs, rs, kv⟩ ts), f7 (keepB s ⟨ts, bs, rs, kv⟩ bs), f7 (keepR s ⟨ts, bs, rs, kv⟩ rs)⟩ := b8a (K := ⟨ts, bs, rs, kv⟩)
theorem d3q {k v : Nat} (h : k < 1000000) : kv k v = 0 := by unfold kv XK; rw [if_pos h]
theorem c9l {k : Nat} (h : 1000000 <= k) : kv k 0 = 0 := by unfold kv; split <;> rfl
theorem c7X {k v : Nat} (h : 1000000 <= k) (h' : 1 <= v) : kv k v = 1 := by unfold kv XK; rw [if_neg (by omega)]; omega
theorem d5m {k v : Nat} : kz k v = 0 := (rfl)
theorem c2f {ts bs rs : List Nat} {q : Nat -> Nat -> Nat} : Keep.at ⟨ts, bs, rs⟩ q = ⟨ts, bs, rs, q⟩ := (rfl)
theorem b1V : s.keep none = s := (rfl)
theorem c5H {K : Kp} {c : Cel} : s.ren K (.one c) = .one (s.renC K c) := (rfl)
theorem c8M {K : Kp} {cs : List Cel} : s.ren K (.ag cs) = .ag (cs.map (s.renC K)) := (rfl)
theorem c8m {K : Kp} {vs : List Val} : s.ren K (.tu vs) = .any := (rfl)
theorem c2k {K : Kp} : s.ren K .any = .any := (rfl)
theorem d0N {K : Kp} {v : Value} : s.renC K (.g v) = .g v := (rfl)
theorem c3t {K : Kp} {fr : Bool} {z : Nat} {es : List (List Cel)} : s.renC K (.sl fr z es) = .sl fr z es := (rfl)
theorem c5n {K : Kp} {cs : List Cel} : s.renC K (.ep cs) = .ep cs := (rfl)
theorem c2G {ts bs rs : List Nat} {q : Nat -> Nat -> Nat} {k : Nat} : s.renC ⟨ts, bs, rs, q⟩ (.mp k) = if k ∈ rs then .mp k else mpF k (s.rw k) := (rfl)
theorem b5I {K : Kp} : s.renC K .any = .any := (rfl)
theorem c5x {ts bs rs : List Nat} {q : Nat -> Nat -> Nat} {k off : Nat} : s.renC ⟨ts, bs, rs, q⟩ (.bx k off) = if k ∈ bs then .bx k off else .any := (rfl)
def rnR (c c' : Cel) (ver : Nat) : Option Row -> Cel
 | some r => if ver = r.ver then c else c'
 | none => c'
theorem b8z {c c' : Cel} {ver v z : Nat} {E : TypeId} {es : List (List Cel)} : rnR c c' ver (some ⟨v, E, z, es⟩) = if ver = v then c else c' := (rfl)
def rnO (k k' ver : Nat) (b : Bool) : Option Row -> Cel
 | some r => if ver = r.ver then (if b then .ow k k' else if k < XK then .sl (frE r.es) r.z r.es else .any) else .any
 | none => .any
theorem b5K {k k' ver v z : Nat} {b : Bool} {E : TypeId} {es : List (List Cel)} : rnO k k' ver b (some ⟨v, E, z, es⟩) = if ver = v then (if b then .ow k k' else if k < XK then .sl (frE es) z es else .any) else .any := (rfl)
theorem b5c {ts bs rs : List Nat} {q : Nat -> Nat -> Nat} {k ver : Nat} : s.renC ⟨ts, bs, rs, q⟩ (.ow k ver) = rnO k (q k ver) ver (decide (k ∈ rs)) (s.rw k) := by
 unfold rnO; simp only [AS.renC, decide_eq_true_eq]; cases s.rw k <;> rfl
theorem c1Y {ts bs rs : List Nat} {q : Nat -> Nat -> Nat} {k ver lo : Nat} : s.renC ⟨ts, bs, rs, q⟩ (.os k ver lo) = if k ∈ rs then rnR (.os k (q k ver) lo) .any ver (s.rw k) else .any := (rfl)
theorem c4t {ts bs rs : List Nat} {q : Nat -> Nat -> Nat} {k ver i off : Nat} : s.renC ⟨ts, bs, rs, q⟩ (.op k ver i off) = if k ∈ rs then rnR (.op k (q k ver) i off) .any ver (s.rw k) else .any := (rfl)
def b9L (bs : List Nat) : Cel -> Bool
 | .bx k _ => k ∈ bs
 | .g _ => true
 | .ep _ => true
 | _ => false
theorem c6M {ts bs rs : List Nat} {q : Nat -> Nat -> Nat} {f : FuncId} {caps : List Cel} : s.renC ⟨ts, bs, rs, q⟩ (.fn f caps) = if caps.all (b9L bs) then .fn f caps else .any := by
 simp only [AS.renC]; congr 3
theorem b5C {bs : List Nat} {k off : Nat} : b9L bs (.bx k off) = decide (k ∈ bs) := (rfl)
theorem b8Q {bs : List Nat} {cs : List Cel} : b9L bs (.ep cs) = true := (rfl)
theorem c6Z {bs : List Nat} {v : Value} : b9L bs (.g v) = true := (rfl)
def d4C (s : AS) (k off rk : Nat) (E : TypeId) (z : Nat) (T : AS -> Prop) : Option (List Cel) -> Option Row -> Prop
 | some cs, none => (cs[off]?.map c2i = some true ∧ rk < XK) ∧ 0 < z ∧ T { s with bx := upd s.bx k (some (wr cs off [.ow rk 0])), rw := upd s.rw rk (some ⟨0, E, z, []⟩) }
 | _, _ => False
theorem c6H {j off rk : Nat} {E : TypeId} {z : Nat} {k : List KI} : ex P (.ownb j off rk E z) k Q s = d4C s j off rk E z (ex P .skip k Q) (s.bx j) (s.rw rk) := by
 unfold d4C; rfl
theorem b6a {j off rk : Nat} {E : TypeId} {z : Nat} {cs : List Cel} {k : List KI} : d4C s j off rk E z (ex P .skip k Q) (some cs) none = ((cs[off]?.map c2i = some true ∧ rk < 1000000) ∧ 0 < z ∧ ex P .skip k Q { s with bx := upd s.bx j (some (wr cs off [.ow rk 0])), rw := upd s.rw rk (some ⟨0, E, z, []⟩) }) := (rfl)
theorem c3r : c2i (.g (.slice none 0 0)) = true := (rfl)
def d2H (s : AS) (k : Nat) (E : TypeId) (z : Nat) (T : AS -> Prop) : Val -> Option Row -> Prop
 | .one (.g (.slice none 0 c)), none => c = 0 ∧ 0 < z ∧ T { s with tm := upd s.tm k (.one (.ow k 0)), rw := upd s.rw k (some ⟨0, E, z, []⟩) }
 | _, _ => False
theorem c2U {j : Nat} {E : TypeId} {z : Nat} {k : List KI} : ex P (.own j E z) k Q s = d2H s j E z (ex P .skip k Q) (s.tm j) (s.rw j) := by
 unfold d2H; rfl
theorem b8X {j : Nat} {E : TypeId} {z : Nat} {k : List KI} : d2H s j E z (ex P .skip k Q) (.one (.g (.slice none 0 0))) none = (0 < z ∧ ex P .skip k Q { s with tm := upd s.tm j (.one (.ow j 0)), rw := upd s.rw j (some ⟨0, E, z, []⟩) }) := by
 simp [d2H]
theorem a9J {c : Cel} : W9 (.one c) = C8 c := (rfl)
theorem b4g {cs : List Cel} : W9 (.ag cs) = cs.all C8 := (rfl)
theorem b6g {v : Value} : C8 (.g v) = true := (rfl)
theorem b1M {fr : Bool} {z : Nat} {es : List (List Cel)} : C8 (.sl fr z es) = true := (rfl)
theorem b1k {cs : List Cel} : C8 (.ep cs) = true := (rfl)
theorem b2j {k : Nat} : C8 (.mp k) = false := (rfl)
theorem b0r : C8 .any = true := (rfl)
theorem b4U {k off : Nat} : C8 (.bx k off) = false := (rfl)
theorem b5l {k ver : Nat} : C8 (.ow k ver) = false := (rfl)
theorem b4F {k ver i off : Nat} : C8 (.op k ver i off) = false := (rfl)
theorem a9G {f : FuncId} : C8 (.fn f []) = true := (rfl)
/-! calls that are handed boxes and rows -/
def hpB (s : AS) (m : CAnn) : List Nat -> List (Nat × List Cel)
 | [] => []
 | k :: l => hpB1 k (s.bx k) (hpB s m l)
where hpB1 (k : Nat) : Option (List Cel) -> List (Nat × List Cel) -> List (Nat × List Cel)
 | some cs, l => (k, cs.map (s.passC m)) :: l
 | none, l => l
theorem c3V {m : CAnn} : hpB s m [] = [] := (rfl)
theorem b6P {m : CAnn} {k : Nat} {l : List Nat} : hpB s m (k :: l) = hpB.hpB1 s m k (s.bx k) (hpB s m l) := (rfl)
theorem b1R {m : CAnn} {k : Nat} {cs : List Cel} {l : List (Nat × List Cel)} : hpB.hpB1 s m k (some cs) l = (k, cs.map (s.passC m)) :: l := (rfl)
def hpR (s : AS) : List Nat -> List (Nat × Row)
 | [] => []
 | k :: l => hpR1 k (s.rw k) (hpR s l)
where hpR1 (k : Nat) : Option Row -> List (Nat × Row) -> List (Nat × Row)
 | some r, l => (k, { r with ver := 0, es := F8 r.es }) :: l
 | none, l => l
theorem c4C : hpR s [] = [] := (rfl)
theorem b9v {k : Nat} {l : List Nat} : hpR s (k :: l) = hpR.hpR1 k (s.rw k) (hpR s l) := (rfl)
theorem b2V {k v z : Nat} {E : TypeId} {es : List (List Cel)} {l : List (Nat × Row)} : hpR.hpR1 k (some ⟨v, E, z, es⟩) l = (k, ⟨0, E, z, F8 es⟩) :: l := (rfl)
theorem d5e {a b c e f : List Nat} : s.hp ⟨a, b, c, e, f⟩ = ⟨hpB s ⟨a, b, c, e, f⟩ a, hpR s b⟩ := by
 have h1 : ∀ (m : CAnn) l, hpB s m l = l.filterMap fun k => (s.bx k).map fun cs => (k, cs.map (s.passC m)) := by
  intro m l; induction l with
  | nil => rfl
  | cons t l ih => simp only [hpB, ih, List.filterMap_cons]; cases s.bx t <;> rfl
 have h2 : ∀ l, hpR s l = l.filterMap fun k => (s.rw k).map fun r => (k, { r with ver := 0, es := F8 r.es }) := by
  intro l; induction l with
  | nil => rfl
  | cons t l ih => simp only [hpR, ih, List.filterMap_cons]; cases s.rw t <;> rfl
 rw [h1, h2]; rfl
theorem b5q {m : CAnn} {c : Cel} : s.passV m (.one c) = .one (s.passC m c) := (rfl)
theorem b7a {m : CAnn} {cs : List Cel} : s.passV m (.ag cs) = .ag (cs.map (s.passC m)) := (rfl)
theorem b4e {m : CAnn} : s.passV m .any = .any := (rfl)
theorem c3N {m : CAnn} {v : Value} : s.passC m (.g v) = .g v := (rfl)
theorem c0d {m : CAnn} {fr : Bool} {z : Nat} {es : List (List Cel)} : s.passC m (.sl fr z es) = .sl false z es := (rfl)
theorem b8h {m : CAnn} {cs : List Cel} : s.passC m (.ep cs) = .ep cs := (rfl)
theorem b9T {a b c e f : List Nat} {k : Nat} : s.passC ⟨a, b, c, e, f⟩ (.mp k) = if k ∈ b then .mp k else .any := (rfl)
theorem b5f {m : CAnn} : s.passC m .any = .any := (rfl)
theorem c0F {a b c e f : List Nat} {k off : Nat} : s.passC ⟨a, b, c, e, f⟩ (.bx k off) = if k ∈ a then .bx k off else .any := (rfl)
def psR (k ver : Nat) (t : Bool) (c : Cel) : Option Row -> Cel
 | some r => if ver = r.ver ∧ t = true then c else .any
 | none => .any
theorem b5G {k ver v z : Nat} {t : Bool} {c : Cel} {E : TypeId} {es : List (List Cel)} : psR k ver t c (some ⟨v, E, z, es⟩) = if ver = v ∧ t = true then c else .any := (rfl)
theorem b9k {a b c e f : List Nat} {k ver : Nat} : s.passC ⟨a, b, c, e, f⟩ (.ow k ver) = psR k ver (decide (k ∈ b)) (.ow k 0) (s.rw k) := by
 simp only [AS.passC, AS.passC0]; unfold psR; cases s.rw k <;> simp
theorem c0l {a b c e f : List Nat} {k ver i off : Nat} : s.passC ⟨a, b, c, e, f⟩ (.op k ver i off) = psR k ver (decide (k ∈ b)) (.op k 0 i off) (s.rw k) := by
 simp only [AS.passC, AS.passC0]; unfold psR; cases s.rw k <;> simp
theorem c0w {m : CAnn} {f : FuncId} {caps : List Cel} : s.passC m (.fn f caps) = .fn f (caps.map (s.passC0 m)) := (rfl)
theorem c0r {m : CAnn} {v : Value} : s.passC0 m (.g v) = .g v := (rfl)
theorem b1F {a b c e f : List Nat} {k off : Nat} : s.passC0 ⟨a, b, c, e, f⟩ (.bx k off) = if k ∈ a then .bx k off else .any := (rfl)
def nvR (t : Bool) : Option Row -> Nat
 | some r => if t then r.ver else r.ver + 1
 | none => 0
theorem d4j {a b c e f : List Nat} {k : Nat} : s.nv ⟨a, b, c, e, f⟩ k = nvR (decide (k ∈ f)) (s.rw k) := by unfold nvR; simp only [AS.nv, decide_eq_true_eq]; cases s.rw k <;> rfl
theorem b5U {t : Bool} {v z : Nat} {E : TypeId} {es : List (List Cel)} : nvR t (some ⟨v, E, z, es⟩) = if t then v else v + 1 := (rfl)
theorem b5D {t : Bool} : nvR t none = 0 := (rfl)
theorem b7Y {m : CAnn} {bs : List (Nat × List Cel)} {rs : List (Nat × Row)} : s.after m ⟨bs, rs⟩ = ⟨s.tm, a5N s m bs s.bx, a5Z s m rs s.rw⟩ := (rfl)
theorem c0v {m : CAnn} {b : Nat -> Option (List Cel)} : a5N s m [] b = b := (rfl)
theorem b3E {m : CAnn} {k : Nat} {cs : List Cel} {l : List (Nat × List Cel)} {b : Nat -> Option (List Cel)} : a5N s m ((k, cs) :: l) b = upd (a5N s m l b) k (some (cs.map (s.backC m))) := (rfl)
theorem c0g {m : CAnn} {b : Nat -> Option Row} : a5Z s m [] b = b := (rfl)
theorem b1W {m : CAnn} {k v z : Nat} {E : TypeId} {es : List (List Cel)} {l : List (Nat × Row)} {b : Nat -> Option Row} : a5Z s m ((k, ⟨v, E, z, es⟩) :: l) b = upd (a5Z s m l b) k (some ⟨s.nv m k, E, z, es⟩) := (rfl)
theorem c5y {m : CAnn} {v : Value} : s.backC m (.g v) = .g v := (rfl)
theorem b7m {m : CAnn} {fr : Bool} {z : Nat} {es : List (List Cel)} : s.backC m (.sl fr z es) = .sl fr z es := (rfl)
theorem b6H {m : CAnn} {cs : List Cel} : s.backC m (.ep cs) = .ep cs := (rfl)
theorem b7g {m : CAnn} {k : Nat} : s.backC m (.mp k) = .mp k := (rfl)
theorem b3i {m : CAnn} : s.backC m .any = .any := (rfl)
theorem b6j {m : CAnn} {k off : Nat} : s.backC m (.bx k off) = .bx k off := (rfl)
theorem b6b {m : CAnn} {k v : Nat} : s.backC m (.ow k v) = .ow k (s.nv m k) := (rfl)
theorem b6D {m : CAnn} {k v i off : Nat} : s.backC m (.op k v i off) = .op k (s.nv m k) i off := (rfl)
theorem b8b {m : CAnn} {f : FuncId} {caps : List Cel} : s.backC m (.fn f caps) = .any := (rfl)
theorem b3Y {m : CAnn} {c : Cel} : s.backV m (.one c) = .one (s.backC m c) := (rfl)
theorem b5F {m : CAnn} {cs : List Cel} : s.backV m (.ag cs) = .ag (cs.map (s.backC m)) := (rfl)
theorem b1l {m : CAnn} : s.backV m .any = .any := (rfl)
def a0l (s : AS) (m : CAnn) : List Val -> List Val
 | [] => []
 | .one c :: l => .one (s.backC m c) :: a0l s m l
 | .ag cs :: l => .ag (cs.map (s.backC m)) :: a0l s m l
 | _ :: l => .any :: a0l s m l
theorem b4Z {m : CAnn} : a0l s m [] = [] := (rfl)
theorem b4k {m : CAnn} {c : Cel} {l : List Val} : a0l s m (.one c :: l) = .one (s.backC m c) :: a0l s m l := (rfl)
theorem b6p {m : CAnn} {cs : List Cel} {l : List Val} : a0l s m (.ag cs :: l) = .ag (cs.map (s.backC m)) :: a0l s m l := (rfl)
theorem b3D {m : CAnn} {l : List Val} : a0l s m (.any :: l) = .any :: a0l s m l := (rfl)
theorem b9f {m : CAnn} {vs : List Val} : s.backV m (.tu vs) = .tu (a0l s m vs) := by
 have h : ∀ l : List Val, a0l s m l = l.map fun v => match v with | .one c => .one (s.backC m c) | .ag cs => .ag (cs.map (s.backC m)) | _ => .any := by
  intro l; induction l with
  | nil => rfl
  | cons v l ih => cases v <;> simp only [a0l, List.map_cons, ih]
 rw [h]; rfl
/-! results -/
def c7w (R : List Cel -> Val -> Prop) : Option Val -> Prop
 | some r => R [] r
 | none => False
theorem b2U {rs : List RV} {R : List Cel -> Val -> Prop} : U3 none rs R .ret s = c7w R (s.res rs) := by unfold c7w; simp only [U3]; cases s.res rs <;> rfl
theorem b5p {rs : List RV} {R : List Cel -> Val -> Prop} : U3 none rs R .nrm s = c7w R (s.res rs) := by unfold c7w; simp only [U3]; cases s.res rs <;> rfl
theorem b3I {R : List Cel -> Val -> Prop} {r : Val} : c7w R (some r) = R [] r := (rfl)
def d0p (s : AS) (R : List Cel -> Val -> Prop) : Option Val -> Option (List Cel) -> Prop
 | some r, some cs => R (cs.map s.finC) r
 | _, _ => False
theorem b0K {cs : List Cel} {rs : List RV} {R : List Cel -> Val -> Prop} : U3 (some cs) rs R .ret s = d0p s R (s.res rs) (s.bx 0) := by
 unfold d0p; simp only [U3]; cases s.res rs <;> cases s.bx 0 <;> rfl
theorem a9R {cs : List Cel} {rs : List RV} {R : List Cel -> Val -> Prop} : U3 (some cs) rs R .nrm s = d0p s R (s.res rs) (s.bx 0) := by
 unfold d0p; simp only [U3]; cases s.res rs <;> cases s.bx 0 <;> rfl
theorem b3k {R : List Cel -> Val -> Prop} {r : Val} {cs : List Cel} : d0p s R (some r) (some cs) = R (cs.map s.finC) r := (rfl)
def rvL (s : AS) : List RV -> Option (List Val)
 | [] => some []
 | x :: l => consV (s.rv x) (rvL s l)
where consV : Option Val -> Option (List Val) -> Option (List Val)
 | some v, some vs => some (v :: vs)
 | _, _ => none
theorem c4u : rvL s [] = some [] := (rfl)
theorem b7v {x : RV} {l : List RV} : rvL s (x :: l) = rvL.consV (s.rv x) (rvL s l) := (rfl)
theorem b0o {v : Val} {vs : List Val} : rvL.consV (some v) (some vs) = some (v :: vs) := (rfl)
def c8i : Option (List Val) -> Option Val
 | some [v] => some v
 | some vs => some (.tu vs)
 | none => none
theorem c8N {rs : List RV} : s.res rs = c8i (rvL s rs) := by
 have h : ∀ rs : List RV, rvL s rs = rs.mapM s.rv := by
  intro rs; induction rs with
  | nil => rfl
  | cons r rs ih =>
   simp only [rvL, ih, List.mapM_cons]
   cases s.rv r <;> cases rs.mapM s.rv <;> rfl
 rw [h]; rfl
theorem b5y {v : Val} : c8i (some [v]) = some v := (rfl)
theorem c0B : c8i (some []) = some (.tu []) := (rfl)
theorem b2C {v v' : Val} {vs : List Val} : c8i (some (v :: v' :: vs)) = some (.tu (v :: v' :: vs)) := (rfl)
theorem d6c {n : Nat} : s.rv (.t n) = some (s.fin (s.tm n)) := (rfl)
def rvB (s : AS) (agg : Bool) (sz off : Nat) : Option (List Cel) -> Option Val
 | some cs => if agg then (if sz <= (cs.drop off).length then some (s.fin (.ag ((cs.drop off).take sz))) else none) else (match cs.drop off with | c :: _ => some (s.fin (.one c)) | [] => none)
 | none => none
theorem b8x {sz off : Nat} {cs : List Cel} : rvB s true sz off (some cs) = if sz <= (cs.drop off).length then some (s.fin (.ag ((cs.drop off).take sz))) else none := (rfl)
def rvS (s : AS) (agg : Bool) (sz : Nat) : Val -> Option Val
 | .one (.bx k off) => rvB s agg sz off (s.bx k)
 | _ => none
theorem d1X {agg : Bool} {sz k off : Nat} : rvS s agg sz (.one (.bx k off)) = rvB s agg sz off (s.bx k) := (rfl)
theorem c6Q {n : Nat} {agg : Bool} {sz : Nat} : s.rv (.cell n agg sz) = rvS s agg sz (s.tm n) := by unfold rvS rvB; simp only [AS.rv]; rfl
def c7H (H : Hp) (s : AS) (K : Keep) (R : Hp -> Val -> Prop) : Option Val -> Prop
 | some r => zOk H.rs (s.outH K).rs = true ∧ R (s.outH K) r
 | none => False
theorem b5m {H : Hp} {K : Keep} {rs : List RV} {R : Hp -> Val -> Prop} : a2c H K rs R .ret s = c7H H s K R (s.resK K rs) := by unfold c7H; simp only [a2c]; cases s.resK K rs <;> rfl
theorem b4H {H : Hp} {K : Keep} {rs : List RV} {R : Hp -> Val -> Prop} : a2c H K rs R .nrm s = c7H H s K R (s.resK K rs) := by unfold c7H; simp only [a2c]; cases s.resK K rs <;> rfl
theorem b2S {bs : List (Nat × List Cel)} {ls : List (Nat × Row)} {K : Keep} {R : Hp -> Val -> Prop} {r : Val} : c7H ⟨bs, ls⟩ s K R (some r) = (zOk ls (s.outH K).rs = true ∧ R (s.outH K) r) := (rfl)
theorem c5q {ts bs rs : List Nat} : s.outH ⟨ts, bs, rs⟩ = ⟨keepB s ⟨ts, bs, rs, kz⟩ bs, keepR s ⟨ts, bs, rs, kz⟩ rs⟩ := by
 have h2 : ∀ (K : Kp) l, keepB s K l = l.filterMap fun k => (s.bx k).map fun cs => (k, cs.map (s.renC K)) := by
  intro K l; induction l with
  | nil => rfl
  | cons t l ih => simp only [keepB, ih, List.filterMap_cons]; cases s.bx t <;> rfl
 have h3 : ∀ (K : Kp) l, keepR s K l = l.filterMap fun k => (s.rw k).map fun r => (k, { r with ver := K.q k r.ver }) := by
  intro K l; induction l with
  | nil => rfl
  | cons t l ih => simp only [keepR, ih, List.filterMap_cons]; cases s.rw t <;> rfl
 rw [h2, h3]; rfl
theorem b0i {S : List Nat} {H : Hp} {K : Keep} {rs : List RV} {R : Hp -> Val -> Prop} : a5y S H K rs R .ret s = (c1d S s = true ∧ a2c H K rs R .ret s) := (rfl)
theorem a9A {S : List Nat} {H : Hp} {K : Keep} {rs : List RV} {R : Hp -> Val -> Prop} : a5y S H K rs R .nrm s = (c1d S s = true ∧ a2c H K rs R .nrm s) := (rfl)
def stV : Option Row -> Bool
 | some r => r.ver == 0
 | none => true
theorem c0D {v z : Nat} {E : TypeId} {es : List (List Cel)} : stV (some ⟨v, E, z, es⟩) = decide (v = 0) := (rfl)
theorem b9e : c1d [] s = true := (rfl)
theorem b2d {k : Nat} {l : List Nat} : c1d (k :: l) s = (decide (1000000 <= k) && stV (s.rw k) && c1d l s) := by
 unfold stV; simp only [c1d, List.all_cons, XK]; cases s.rw k <;> rfl
def zo1 (z : Nat) : Option Row -> Bool
 | some r => r.z == z
 | none => true
theorem b9C {z v z' : Nat} {E : TypeId} {es : List (List Cel)} : zo1 z (some ⟨v, E, z', es⟩) = decide (z' = z) := (rfl)
theorem b8i {z : Nat} : zo1 z none = true := (rfl)
theorem c4A {l : List (Nat × Row)} : zOk [] l = true := (rfl)
theorem b7d {k v z : Nat} {E : TypeId} {es : List (List Cel)} {l l' : List (Nat × Row)} : zOk ((k, ⟨v, E, z, es⟩) :: l) l' = (zo1 z (f7 l' k) && zOk l l') := by
 unfold zo1; simp only [zOk]; generalize f7 l' k = x; cases x <;> rfl
def c4q (s : AS) (K : Keep) : List RV -> Option (List Val)
 | [] => some []
 | x :: l => rvL.consV (s.rvK K x) (c4q s K l)
theorem b6U {K : Keep} : c4q s K [] = some [] := (rfl)
theorem b3P {K : Keep} {x : RV} {l : List RV} : c4q s K (x :: l) = rvL.consV (s.rvK K x) (c4q s K l) := (rfl)
theorem c3j {K : Keep} {rs : List RV} : s.resK K rs = c8i (c4q s K rs) := by
 have h : ∀ rs : List RV, c4q s K rs = rs.mapM (s.rvK K) := by
  intro rs; induction rs with
  | nil => rfl
  | cons r rs ih =>
   simp only [c4q, ih, List.mapM_cons]
   cases s.rvK K r <;> cases rs.mapM (s.rvK K) <;> rfl
 rw [h]; rfl
theorem d2X {K : Keep} {n : Nat} : s.rvK K (.t n) = some (s.ren (K.at kz) (s.tm n)) := (rfl)
def rvKB (s : AS) (K : Kp) (agg : Bool) (sz off : Nat) : Option (List Cel) -> Option Val
 | some cs => if agg then (if sz <= (cs.drop off).length then some (s.ren K (.ag ((cs.drop off).take sz))) else none) else rvKC (cs.drop off)
 | none => none
where rvKC : List Cel -> Option Val
 | c :: _ => some (s.ren K (.one c))
 | [] => none
theorem b3R {K : Kp} {c : Cel} {cs : List Cel} : rvKB.rvKC s K (c :: cs) = some (s.ren K (.one c)) := (rfl)
theorem b1v {K : Kp} {sz off : Nat} {cs : List Cel} : rvKB s K true sz off (some cs) = if sz <= (cs.drop off).length then some (s.ren K (.ag ((cs.drop off).take sz))) else none := by simp [rvKB]
theorem a9D {K : Kp} {sz off : Nat} {cs : List Cel} : rvKB s K false sz off (some cs) = rvKB.rvKC s K (cs.drop off) := by simp [rvKB]
def d5g (s : AS) (K : Kp) (agg : Bool) (sz : Nat) : Val -> Option Val
 | .one (.bx k off) => rvKB s K agg sz off (s.bx k)
 | _ => none
theorem c6g {K : Kp} {agg : Bool} {sz k off : Nat} : d5g s K agg sz (.one (.bx k off)) = rvKB s K agg sz off (s.bx k) := (rfl)
theorem b6L {K : Keep} {n : Nat} {agg : Bool} {sz : Nat} : s.rvK K (.cell n agg sz) = d5g s (K.at kz) agg sz (s.tm n) := by
 unfold d5g rvKB rvKB.rvKC; simp only [AS.rvK]; rfl
theorem b7p {bs : List (Nat × List Cel)} {rs : List (Nat × Row)} {args : List Val} : a3Z ⟨bs, rs⟩ args = ⟨m7 (O6 0 args), f7 bs, f7 rs⟩ := (rfl)
theorem b4t {k : Nat} : O6 k [] = [] := (rfl)
theorem a9C {k : Nat} {v : Val} {l : List Val} : O6 k (v :: l) = (k, v) :: O6 (k + 1) l := (rfl)
theorem a6F {args : List Val} : G5 none args = ⟨m7 (O6 0 args), f7 [], f7 []⟩ := (rfl)
theorem a6c {cs : List Cel} {args : List Val} : G5 (some cs) args = ⟨m7 ((0, .one (.bx 0 0)) :: O6 1 args), f7 [(0, cs)], f7 []⟩ := (rfl)
def chE (s : AS) (d : Option Nat) : Val -> SRes
 | .one (.mp _) => .bad
 | .one (.os _ _ _) => .bad
 | .one (.ws _ _ _ _) => .bad
 | .one (.bx _ _) => .bad
 | .one (.ow _ _) => .bad
 | .one (.op _ _ _ _) => .bad
 | _ => .ok (s.put d .any)
def chK (s : AS) (d : Option Nat) (k : Nat) : Val -> SRes
 | .one (.bx j _) => if j = k then .ok (s.put d .any) else .bad
 | .one (.op _ _ _ _) => if k = RWK then .ok (s.put d .any) else .bad
 | _ => .bad
theorem d1U {d : Option Nat} {x : Opd} : c9 d (.chk x none) s = chE s d (s.ev x) := by
 rw [c9]; rfl
theorem d0F {d : Option Nat} {x : Opd} {k : Nat} : c9 d (.chk x (some k)) s = chK s d k (s.ev x) := by
 rw [c9]; rfl
theorem d1H {d : Option Nat} {cs : List Cel} : chE s d (.one (.ep cs)) = .ok (s.put d .any) := (rfl)
theorem d0K {d : Option Nat} {kc : Nat} {es : List (List Cel)} : chE s d (.one (.fm kc es)) = .ok (s.put d .any) := (rfl)
theorem c8A {d : Option Nat} {fr : Bool} {z : Nat} {es : List (List Cel)} : chE s d (.one (.sl fr z es)) = .ok (s.put d .any) := (rfl)
theorem d3m {d : Option Nat} {v : Value} : chE s d (.one (.g v)) = .ok (s.put d .any) := (rfl)
theorem d2k {d : Option Nat} {a b c e : Nat} : chK s d 999999999 (.one (.op a b c e)) = .ok (s.put d .any) := (rfl)
theorem d0X {d : Option Nat} {k j off : Nat} : chK s d k (.one (.bx j off)) = if j = k then .ok (s.put d .any) else .bad := (rfl)
theorem d2U {v : Value} : (Cel.g v).isD = true := (rfl)
theorem d0k {fr : Bool} {z : Nat} {es : List (List Cel)} : (Cel.sl fr z es).isD = true := (rfl)
theorem c3f : Cel.any.isD = true := (rfl)
theorem a9L {c : Cel} : P2 (.one c) = o6 c := (rfl)
theorem b1C {cs : List Cel} : P2 (.ag cs) = cs.all o6 := (rfl)
theorem b9Z {v : Value} : o6 (.g v) = true := (rfl)
theorem b2p {z : Nat} {es : List (List Cel)} : o6 (.sl true z es) = true := (rfl)
theorem d4n {cs news : List Cel} {off : Nat} : wr cs off news = cs.take off ++ news ++ cs.drop (off + news.length) := (rfl)
end
theorem a1F {α : Type} (f : Nat -> α) (k : Nat) (v : α) (j : Nat) : upd f k v j = if j = k then v else f j := (rfl)
theorem a1e (j : Nat) (v : Val) (l : List (Nat × Val)) (n : Nat) : m7 ((j, v) :: l) n = if n = j then v else m7 l n := (rfl)
theorem a3B (n : Nat) : m7 [] n = .any := (rfl)
theorem b2h {α : Type} (j : Nat) (v : α) (l : List (Nat × α)) (n : Nat) : f7 ((j, v) :: l) n = if n = j then some v else f7 l n := (rfl)
theorem b7D {α : Type} (n : Nat) : (f7 ([] : List (Nat × α)) n) = none := (rfl)
theorem wrap_i64 (n : Int) (h1 : -9223372036854775808 <= n) (h2 : n <= 9223372036854775807) : IntKind.i64.wrap n = n := IntWalk.i64_in n ⟨h1, h2⟩
theorem b5Y (n : Int) (h1 : 0 <= n) (h2 : n <= 18446744073709551615) : IntKind.u64.wrap n = n := IntWalk.u64_in n ⟨h1, h2⟩
end
attribute [go_sem] d0K c9V d1p b4B b2B b4C b3O c9T c7S c4j c3X d1N c9m c5U a7l a6I
attribute [go_sem] c7d a6w c7z d1U d0F d1H c8A d3m d0X d2k d4L d3U b9c c8h b6v a4I a6V b0N a7i a4Y a6Y a9X a7f b0h b2n b0H d1z c3i d3z d1P d4i d2O b9Q d2W c6b d4e c0h c7Q b7b b4l c4O b7u b1o c8z c0P d3p c6G c6f c8o c5B c7a c9J c4e d1V c2p c9a b2D c4o d5O d6f d6o d5W d6B d1a b8V b9o c6B b6r b0w b1q c3G c2J b6Y b9y b5A b6A c9u d7p a6Q c4m b3N d3N b0b b1g b2O b8L b1T b8c c2s b2J a9Y a7c a9S c0i b5S b7X b7R c7V c9q d0Q d2h a9Z a6N d4u d2t c3g b5E b8m c0A d0u d2q c4J b9H c8P c9Y c9g b8N d4x c4Y c4D c6J c7f c2R c1T c3Q c7c c6N c5L c4n c4b c6x c8l c3b c6l c0k c0z b9p c0s b8W b5L b6h d6J c9F d0E c9M c6d b5X b2W b7I c7g c0E d0P d5a c7Y d2m d0n c9Z c8d b9P b8s b7e b9R d1q c8J d2e c9e b9N b8v b4K c0x d1J d1R c8S d4Q d4N c9G c9d b9n b6n d4p d2p c2w c9w d0U c8y d4A c6n c1X a8g c1Q e_append b6x c3A c6I b4L b7j b6X c0j b7N b7W b7E b7x b5h b7w b2F c6F b9U b6f b4i c3W c8X d0H c0m c4W c3F a8K c2v b2H b0g b4a a9z b7O b8p b4c a9x b9I b7Z b4s b1V d3q c9l c7X d5m c2f b0i a9A c0D b9e b2d c5H c8M c8m c2k d0N c3t c5n b5I c5x b8z b5c c4t c6M b5C c6Z b8Q c2U b8X c6H b6a b5W a9J b4g b6g b1M b1k b0r b4U b5l b4F a9G b2U b5p b3I b0K a9R b3k c4u b7v b0o c8N b5y c0B b2C d6c b8x d1X c6Q b4t a9C a6F a6c d2U d0k c3f a9L b1C b9Z b2p d4n a1F a1e a3B b2h b7D wrap_i64 b5Y List.all_cons List.all_nil List.cons_append List.nil_append List.append_nil List.drop_succ_cons List.drop_zero List.drop_nil List.take_succ_cons List.take_zero List.take_nil List.length_cons List.length_nil List.getElem?_cons_zero List.getElem?_cons_succ if_true if_false decide_eq_true_eq decide_eq_false_iff_not Bool.and_true Bool.true_and Bool.and_self and_true true_and and_self List.mem_cons List.not_mem_nil or_false false_or or_true true_or forall_const Bool.true_eq_false Bool.false_eq_true false_implies implies_true imp_self Bool.not_true Bool.not_false Nat.zero_add Nat.add_zero not_false_eq_true List.map_cons List.map_nil Option.map_some Option.map_none
attribute [go_sem high] a7z a5B d1A c0Q c0K c1r c0G a8r a5b
section
variable {P : Program} {Q : AX -> AS -> Prop} {s : AS} {k : List KI} {kp : Option Keep} {l : List GI}
def d2B (p X : Prop) : Prop := p ∧ X
theorem c5A {p X : Prop} (h : p) : d2B p X = X := propext ⟨fun h => h.2, fun h' => ⟨h, h'⟩⟩
theorem b4N {X : Prop} : d2B True X = X := propext ⟨fun h => h.2, fun h' => ⟨trivial, h'⟩⟩
theorem nd {p X : Prop} (h : p) (hX : p -> X) : d2B p X := ⟨h, hX h⟩
theorem b8B {p : Prop} : sg P (.need p s) l kp k Q = d2B p (rg P l kp k Q s) := (rfl)
theorem b0C {p : Prop} (h : p) : sg P (.need p s) l kp k Q = rg P l kp k Q s := by rw [c5Y]; exact propext ⟨fun h => h.2, fun h' => ⟨h, h'⟩⟩
theorem d0b {p : Prop} [Decidable p] {a b : AC} (h : p) : cnd P (.one (.g (.bool (decide p)))) a b k Q s = ex P a k Q s := by rw [decide_eq_true h, a7z]
theorem d2o {p : Prop} [Decidable p] {a b : AC} (h : ¬p) : cnd P (.one (.g (.bool (decide p)))) a b k Q s = ex P b k Q s := by rw [decide_eq_false h, a5B]
theorem c6u {p : Prop} [Decidable p] {g : Nat} {d : Option Nat} {i : Ins} (h : p) : gdG P (.one (.g (.bool (decide p)))) g true d i l kp k Q s = rg P (⟨d, none, i⟩ :: l) kp k Q (s.fix g true) := by rw [decide_eq_true h, c0Q]
theorem c6y {p : Prop} [Decidable p] {g : Nat} {d : Option Nat} {i : Ins} (h : ¬p) : gdG P (.one (.g (.bool (decide p)))) g false d i l kp k Q s = rg P (⟨d, none, i⟩ :: l) kp k Q (s.fix g false) := by rw [decide_eq_false h, c0K]
theorem c2C {p : Prop} [Decidable p] {g : Nat} {d : Option Nat} {i : Ins} (h : p) : gdG P (.one (.g (.bool (decide p)))) g false d i l kp k Q s = rg P l kp k Q ((s.fix g true).put d (.tu [])) := by rw [decide_eq_true h, c1r]
theorem c6t {p : Prop} [Decidable p] {g : Nat} {d : Option Nat} {i : Ins} (h : ¬p) : gdG P (.one (.g (.bool (decide p)))) g true d i l kp k Q s = rg P l kp k Q ((s.fix g false).put d (.tu [])) := by rw [decide_eq_false h, c0G]
theorem c7C {p : Prop} [Decidable p] {a b : Val} {d : Option Nat} (h : p) : pkG P (.one (.g (.bool (decide p)))) a b d l kp k Q s = rg P l kp k Q (s.put d a) := by rw [decide_eq_true h, a8r]
theorem d0v {p : Prop} [Decidable p] {a b : Val} {d : Option Nat} (h : ¬p) : pkG P (.one (.g (.bool (decide p)))) a b d l kp k Q s = rg P l kp k Q (s.put d b) := by rw [decide_eq_false h, a5b]
theorem c2u {p q : Prop} [Decidable p] [Decidable q] : (decide p && decide q) = decide (p ∧ q) := by simp
theorem c2M {p : Prop} [Decidable p] : (!decide p) = decide (¬p) := by simp
end
attribute [go_sem high] b4N c5A b0C d0b d2o c6u c6y c2C c6t c7C d0v
attribute [go_sem] c1Y b9g c8g b7F d0f
attribute [go_sem] b7A b6R c5G c6R c5m b5R b7V b5g b7o c2E c4T b3G c0y b5B d0j b5x c3r c2Y c5J c8L d0l c9r c7D c9O c9D d1m d1F c8G c8F d0x b2A d3v b2R c2Q d5b c8n c7u c2a d5h b3S b3j b4G b5d c3K b4w c2G b7K c2A b7H b2j b9T b7g c8s d0D d1x c8Q b9j d2w d4r b6c c8r d4X b4m c6T d3R b7t b8P d3D a8g c1Q d3f d4d c6D b1m c9z a7A a1S c0f b3W d3j c9s c2F c5k b8O c6z a8R b7r a8K d4U b5K b5c c3V b6P b1R c4C b9v b2V d5e b5q b7a b4e c3N c0d b8h b5f c0F b5G b9k c0l c0w c0r b1F d4j b5U b5D b7Y c0v b3E c0g b1W c5y b7m b6H b3i b6j b6b b6D b8b b3Y b5F b1l b4Z b4k b6p b3D b9f b5m b4H b2S c5q b9C b8i c4A b7d b6U b3P c3j d2X b3R b1v a9D c6g b6L b7p b9W d4B
attribute [go_sem] c2M d4h c6w c9x c2u b8B c0P d4O d5c d3K d1s c6k c4R b2I b7k d3L d3a d3i c2D c4U c6S c3n c2b c6h c5P
section
variable {P : Program} {f : FuncId} {fn : Func} {C : AC} {rs : List RV}
def knT (P : Program) (fn : Func) (A : List Ann) : Bool × Bool × Option (AC × List Ann) × Option (List RV) × Bool := (fn.body.isSome, fn.name == "runtime.NumGoroutine", b0 P fn.ntmps (fn.body.getD .skip) A, m6 P fn.results.toList, decide (fn.ntmps <= 900000))
abbrev FcT (P : Program) (f : FuncId) (fn : Func) (C : AC) (rs : List RV) : Prop := ∀ {xt : Option (List Cel)} {args : List Val} {R : List Cel -> Val -> Prop}, (if xt.isSome then 1 else 0) + args.length <= fn.ntmps -> ex P C [] (U3 xt rs R) (G5 xt args) -> FC P f xt args R
abbrev FsT (P : Program) (f : FuncId) (fn : Func) (C : AC) (rs : List RV) : Prop := ∀ {S : List Nat} {H : Hp} {K : Keep} {args : List Val} {R : Hp -> Val -> Prop}, args.length <= fn.ntmps -> (∀ p ∈ H.bs, p.1 = 0 ∨ XK <= p.1) -> (∀ p ∈ H.rs, XK <= p.1) -> ex P C [] (a5y S H K rs R) (a3Z H args) -> F9 P f S H args R
abbrev FmT (P : Program) (f : FuncId) (fn : Func) (C : AC) (rs : List RV) : Prop := ∀ {H : Hp} {K : Keep} {args : List Val} {R : Hp -> Val -> Prop}, args.length <= fn.ntmps -> (∀ p ∈ H.bs, p.1 = 0 ∨ XK <= p.1) -> (∀ p ∈ H.rs, XK <= p.1) -> ex P C [] (a2c H K rs R) (a3Z H args) -> FCM P f H args R
variable (A : List Ann) (hf : P.funcs[f]? = some fn) (hk : knT P fn A = (true, false, some (C, []), some rs, true))
include hf hk
theorem d3s : FcT P f fn C rs := fun hn h => by
 simp only [knT, Prod.mk.injEq] at hk
 obtain ⟨h1, h2, h3, h4, h5⟩ := hk
 obtain ⟨b, hb⟩ := Option.isSome_iff_exists.1 h1
 rw [hb] at h3
 exact b2c hf hb h2 h3 h4 (of_decide_eq_true h5) hn h
theorem c5K : FsT P f fn C rs := fun hn hkb hkr h => by
 simp only [knT, Prod.mk.injEq] at hk
 obtain ⟨h1, h2, h3, h4, h5⟩ := hk
 obtain ⟨b, hb⟩ := Option.isSome_iff_exists.1 h1
 rw [hb] at h3
 exact a1k hf hb h2 h3 h4 (of_decide_eq_true h5) hn hkb hkr h
theorem d1f : FmT P f fn C rs := fun hn hkb hkr h => by
 simp only [knT, Prod.mk.injEq] at hk
 obtain ⟨h1, h2, h3, h4, h5⟩ := hk
 obtain ⟨b, hb⟩ := Option.isSome_iff_exists.1 h1
 rw [hb] at h3
 exact a9N hf hb h2 h3 h4 (of_decide_eq_true h5) hn hkb hkr h
end
attribute [go_sem] eq_self decide_true decide_false not_true_eq_false not_false_eq_true
attribute [go_sem_proc] reduceIte reduceCtorEq Nat.reduceEqDiff Nat.reduceAdd Nat.reduceSub Nat.reduceLeDiff
def gi0 : GI := ⟨none, none, .mv (.t 0)⟩
def cq (P : Program) (N : Nat) : Code -> List Ann -> AC × List Ann
 | .region _ ops false, an :: l => (a0m (R2 (.reg false (ops.toList.map fun o => (l7 P N an.calls ops o).getD gi0) an.keep) an.owns) an.tys, l)
 | .region _ ops true, an :: l => (a0m (R2 (.reg true (inter (a6e an.lims 0 (ops.toList.map fun o => (l7 P N an.calls ops o).getD gi0))) an.keep) an.owns) an.tys, l)
 | .seq a b, l => (.seq (cq P N a l).1 (cq P N b (cq P N a l).2).1, (cq P N b (cq P N a l).2).2)
 | .cond c a b, l => (.cond ((opd c).getD (.t 0)) (cq P N a l).1 (cq P N b (cq P N a l).2).1, (cq P N b (cq P N a l).2).2)
 | .block id a, l => (.block id (cq P N a l).1, (cq P N a l).2)
 | .loop a, l => (.loop (cq P N a l).1, (cq P N a l).2)
 | .exit id, l => (.exit id, l)
 | .ret, l => (.ret, l)
 | _, l => (.skip, l)
theorem a5D {α β : Type} {f : α -> Option β} (d : β) : ∀ {l : List α} {gs : List β}, l.mapM f = some gs -> l.map (fun o => (f o).getD d) = gs
 | [], gs, h => by simp at h; subst h; rfl
 | a :: l, gs, h => by
  simp only [List.mapM_cons, Option.bind_eq_bind, Option.bind_eq_some_iff, Option.pure_def, Option.some.injEq] at h
  obtain ⟨b, hb, bs, hbs, rfl⟩ := h
  simp [hb, a5D d hbs]
theorem d3w {P : Program} {N : Nat} : ∀ (c : Code) (l : List Ann) (x : AC × List Ann), b0 P N c l = some x -> cq P N c l = x := by
 intro c
 induction c with
 | region id ops d =>
  intro l x h
  cases d <;> cases l <;> simp only [b0] at h <;> first | (cases h; done) | skip
  all_goals (
   split at h
   ·rename_i gs hg
    have := a5D gi0 hg
    simp only [cq, this]
    grind
   ·cases h)
 | seq a b iha ihb =>
  intro l x h
  simp only [b0] at h
  split at h
  ·rename_i y l1 h1
   split at h
   ·rename_i z l2 h2
    simp only [cq, iha _ _ h1, ihb _ _ h2]
    exact Option.some.inj h
   ·cases h
  ·cases h
 | cond c a b iha ihb =>
  intro l x h
  simp only [b0] at h
  split at h
  ·rename_i c' y l1 h0 h1
   split at h
   ·rename_i z l2 h2
    simp only [cq, iha _ _ h1, ihb _ _ h2, h0]
    exact Option.some.inj h
   ·cases h
  ·cases h
 | block id a ih =>
  intro l x h
  simp only [b0] at h
  split at h
  ·rename_i y l1 h1
   simp only [cq, ih _ _ h1]; exact Option.some.inj h
  ·cases h
 | loop a ih =>
  intro l x h
  simp only [b0] at h
  split at h
  ·rename_i y l1 h1
   simp only [cq, ih _ _ h1]; exact Option.some.inj h
  ·cases h
 | skip => intro l x h; exact Option.some.inj h
 | exit id => intro l x h; exact Option.some.inj h
 | ret => intro l x h; exact Option.some.inj h
 | _ => intro l x h; cases h
def cc (P : Program) (fn : Func) (A : List Ann) : AC := (cq P fn.ntmps (fn.body.getD .skip) A).1
def rq (P : Program) (fn : Func) : List RV := (m6 P fn.results.toList).getD []
def knQ (P : Program) (fn : Func) (A : List Ann) : Bool := fn.body.isSome && !(fn.name == "runtime.NumGoroutine") && (match b0 P fn.ntmps (fn.body.getD .skip) A with | some (_, []) => true | _ => false) && (m6 P fn.results.toList).isSome && decide (fn.ntmps <= 900000)
theorem c5i {P : Program} {fn : Func} {A : List Ann} (h : knQ P fn A = true) : knT P fn A = (true, false, some (cc P fn A, []), some (rq P fn), true) := by
 simp only [knQ, Bool.and_eq_true] at h
 obtain ⟨⟨⟨⟨h1, h2⟩, h3⟩, h4⟩, h5⟩ := h
 simp only [knT, Prod.mk.injEq]
 refine ⟨h1, by simpa using h2, ?_, ?_, h5⟩
 ·split at h3
  ·rename_i x hx
   rw [hx, cc, d3w _ _ _ hx]
  ·cases h3
 ·obtain ⟨rs, hr⟩ := Option.isSome_iff_exists.1 h4
  rw [rq, hr]; rfl
section
variable {P : Program} {f : FuncId} {fn : Func} {C : AC} {rs : List RV} (hf : P.funcs[f]? = some fn) (A : List Ann)
include hf
theorem fcE {xt : Option (List Cel)} {args : List Val} {R : List Cel -> Val -> Prop} (h : ex P C [] (U3 xt rs R) (G5 xt args)) (hk : knQ P fn A = true := by kernel_rfl) (hr : rq P fn = rs := by conv => lhs; cbv) (hC : cc P fn A = C := by conv => lhs; cbv) (hn : (if xt.isSome then 1 else 0) + args.length <= fn.ntmps := by simp +arith) : FC P f xt args R := by
 have := c5i hk
 rw [hr, hC] at this
 exact d3s A hf this hn h
theorem fmE {H : Hp} {args : List Val} {R : Hp -> Val -> Prop} (K : Keep) (h : ex P C [] (a2c H K rs R) (a3Z H args)) (hk : knQ P fn A = true := by kernel_rfl) (hr : rq P fn = rs := by conv => lhs; cbv) (hC : cc P fn A = C := by conv => lhs; cbv) (hn : args.length <= fn.ntmps := by simp +arith) (hkb : ∀ p ∈ H.bs, p.1 = 0 ∨ XK <= p.1 := by simp [XK]) (hkr : ∀ p ∈ H.rs, XK <= p.1 := by simp [XK]) : FCM P f H args R := by
 have := c5i hk
 rw [hr, hC] at this
 exact d1f A hf this hn hkb hkr h
theorem fsE {S : List Nat} {H : Hp} {args : List Val} {R : Hp -> Val -> Prop} (K : Keep) (h : ex P C [] (a5y S H K rs R) (a3Z H args)) (hk : knQ P fn A = true := by kernel_rfl) (hr : rq P fn = rs := by conv => lhs; cbv) (hC : cc P fn A = C := by conv => lhs; cbv) (hn : args.length <= fn.ntmps := by simp +arith) (hkb : ∀ p ∈ H.bs, p.1 = 0 ∨ XK <= p.1 := by simp [XK]) (hkr : ∀ p ∈ H.rs, XK <= p.1 := by simp [XK]) : F9 P f S H args R := by
 have := c5i hk
 rw [hr, hC] at this
 exact c5K A hf this hn hkb hkr h
end
section
variable {P : Program} {f : FuncId} {vargs : List Val} {x : Val} {v : Bool} {d : Option Nat} {l : List GI} {kp : Option Keep} {k : List KI} {Q : AX -> AS -> Prop} {s : AS} {A B : Prop}
theorem qv (hb : B) (h : A = B := by (conv => lhs; simp (maxSteps := 1000000) (disch := omega) only [go_sem]) <;> rfl) : A := h ▸ hb
theorem qt (h : A = True := by (conv => lhs; simp (maxSteps := 1000000) (disch := omega) only [go_sem]) <;> rfl) : A := h ▸ trivial
theorem qc (hf : FC P f none vargs (fun _ r => r = x)) (h2 : rg P l kp k Q (s.put d x)) (h : A = d1T P f vargs v d l kp k Q s := by (conv => lhs; simp (maxSteps := 1000000) (disch := omega) only [go_sem]) <;> rfl) (h1 : P2 x = true ∨ M8 x = true ∧ v = true := by exact .inl rfl) : A := h ▸ m9 hf h1 h2
theorem qvs (hb : B) (h : A = B := by (conv => lhs; simp (maxSteps := 1000000) (disch := (first | omega | assumption)) only [go_sem]) <;> rfl) : A := h ▸ hb
theorem qts (h : A = True := by (conv => lhs; simp (maxSteps := 1000000) (disch := (first | omega | assumption)) only [go_sem]) <;> rfl) : A := h ▸ trivial
theorem qcs (hf : FC P f none vargs (fun _ r => r = x)) (h2 : rg P l kp k Q (s.put d x)) (h : A = d1T P f vargs v d l kp k Q s := by (conv => lhs; simp (maxSteps := 1000000) (disch := (first | omega | assumption)) only [go_sem]) <;> rfl) (h1 : P2 x = true ∨ M8 x = true ∧ v = true := by exact .inl rfl) : A := h ▸ m9 hf h1 h2
end
def aM (b r : List Nat) (l : List (List Nat)) : List Ann := l.map fun t => aN t b r
def aL (l : List (List Nat)) : List Ann := l.map fun t => aN t [] []
end Go.Ai

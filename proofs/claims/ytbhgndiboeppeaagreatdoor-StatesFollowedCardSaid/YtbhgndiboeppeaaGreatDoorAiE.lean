/- The abstract layer: the equations by which simp runs abstract code. -/
import Derived.Test.YtbhgndiboeppeaaGreatDoorAiF
set_option linter.all false
namespace Go.Ai
open Go
inductive KI where
 | code (c : AC)
 | blk (id : Nat)
 | lp (I : AS → Prop)
def c5P (P : Program) : List KI → (AX → AS → Prop) → AX → AS → Prop
 | [], Q => Q
 | .code c :: k, Q => a9K (awp P c (c5P P k Q)) (c5P P k Q)
 | .blk id :: k, Q => d1A id (c5P P k Q)
 | .lp I :: k, Q => a9K I (c5P P k Q)
def ex (P : Program) (c : AC) (k : List KI) (Q : AX → AS → Prop) (s : AS) : Prop := awp P c (c5P P k Q) s
def rg (P : Program) (l : List GI) (kp : Option Keep) (k : List KI) (Q : AX → AS → Prop) (s : AS) : Prop := a6G P l (fun s' => c5P P k Q .nrm (s'.keep kp)) s
section
variable {P : Program} {Q : AX → AS → Prop} {s : AS} {k : List KI} {kp : Option Keep} {l : List GI}
theorem c8s {a b : AC} : ex P (.seq a b) k Q s = ex P a (.code b :: k) Q s := (rfl)
theorem b8Q {id : Nat} {a : AC} : ex P (.block id a) k Q s = ex P a (.blk id :: k) Q s := (rfl)
theorem a5A {b : AC} : ex P .skip (.code b :: k) Q s = ex P b k Q s := (rfl)
theorem a6s {id : Nat} : ex P .skip (.blk id :: k) Q s = ex P .skip k Q s := (rfl)
theorem a9m {I : AS → Prop} : ex P .skip (.lp I :: k) Q s = I s := (rfl)
theorem a6v : ex P .skip [] Q s = Q .nrm s := (rfl)
theorem a5w {id : Nat} {b : AC} : ex P (.exit id) (.code b :: k) Q s = ex P (.exit id) k Q s := (rfl)
theorem a5O {id j : Nat} : ex P (.exit id) (.blk j :: k) Q s = if id = j then ex P .skip k Q s else ex P (.exit id) k Q s := (rfl)
theorem b0e {id : Nat} {I : AS → Prop} : ex P (.exit id) (.lp I :: k) Q s = ex P (.exit id) k Q s := (rfl)
theorem a5U {b : AC} : ex P .ret (.code b :: k) Q s = ex P .ret k Q s := (rfl)
theorem b0j {j : Nat} : ex P .ret (.blk j :: k) Q s = ex P .ret k Q s := (rfl)
theorem b3T {I : AS → Prop} : ex P .ret (.lp I :: k) Q s = ex P .ret k Q s := (rfl)
theorem a9s : ex P .ret [] Q s = Q .ret s := (rfl)
theorem d2n {j z : Nat} : ex P (.ty j z) k Q s = ex P .skip k Q { s with tm := upd s.tm j (tyV z (s.tm j)) } := (rfl)
theorem c4B {z c : Nat} : tyV z (.one (.g (.slice none 0 c))) = .one (.sl true z []) := (rfl)
theorem d0Y {z z' : Nat} {fr : Bool} {es : List (List Cel)} : tyV z (.one (.sl fr z' es)) = .one (.sl fr z' es) := (rfl)
theorem d0u {d : Bool} : ex P (.reg d l kp) k Q s = rg P l kp k Q s := (rfl)
def cnd (P : Program) (v : Val) (a b : AC) (k : List KI) (Q : AX → AS → Prop) (s : AS) : Prop :=
 match v with
 | .one (.g (.bool t)) => (t = true → ex P a k Q s) ∧ (t = false → ex P b k Q s)
 | _ => False
theorem c2N {c : Opd} {a b : AC} : ex P (.cond c a b) k Q s = cnd P (s.ev c) a b k Q s := by
 unfold ex cnd
 simp only [awp]
 split
 ·rename_i t h; rw [h]; cases t <;> simp [ex]
 ·all_goals grind
theorem d3M {t : Bool} {a b : AC} : cnd P (.one (.g (.bool t))) a b k Q s = ((t = true → ex P a k Q s) ∧ (t = false → ex P b k Q s)) := (rfl)
theorem a7d {a b : AC} : cnd P (.one (.g (.bool true))) a b k Q s = ex P a k Q s := by simp [cnd]
theorem a4O {a b : AC} : cnd P (.one (.g (.bool false))) a b k Q s = ex P b k Q s := by simp [cnd]
theorem d0C : rg P [] kp k Q s = ex P .skip k Q (s.keep kp) := (rfl)
def sg (P : Program) (r : SRes) (l : List GI) (kp : Option Keep) (k : List KI) (Q : AX → AS → Prop) : Prop := q9 r (rg P l kp k Q)
theorem d2u : sg P (.ok s) l kp k Q = rg P l kp k Q s := (rfl)
theorem c3k {p : Prop} : sg P (.need p s) l kp k Q = (p ∧ rg P l kp k Q s) := (rfl)
def gdG (P : Program) (v : Val) (g : Nat) (want : Bool) (d : Option Nat) (i : Ins) (l : List GI) (kp : Option Keep) (k : List KI) (Q : AX → AS → Prop) (s : AS) : Prop :=
 match v with
 | .one (.g (.bool b)) => (b = want → rg P (⟨d, none, i⟩ :: l) kp k Q (s.fix g want)) ∧ (b = (!want) → rg P l kp k Q ((s.fix g (!want)).put d (.tu [])))
 | .tu [] => rg P l kp k Q (s.put d (.tu []))
 | _ => False
theorem d2S {b want : Bool} {g : Nat} {d : Option Nat} {i : Ins} : gdG P (.one (.g (.bool b))) g want d i l kp k Q s =
  ((b = want → rg P (⟨d, none, i⟩ :: l) kp k Q (s.fix g want)) ∧ (b = (!want) → rg P l kp k Q ((s.fix g (!want)).put d (.tu [])))) := (rfl)
theorem c7a {want : Bool} {g : Nat} {d : Option Nat} {i : Ins} : gdG P (.tu []) g want d i l kp k Q s = rg P l kp k Q (s.put d (.tu [])) := (rfl)
theorem c0K {g : Nat} {d : Option Nat} {i : Ins} : gdG P (.one (.g (.bool true))) g true d i l kp k Q s = rg P (⟨d, none, i⟩ :: l) kp k Q (s.fix g true) := by simp [gdG]
theorem b9Z {g : Nat} {d : Option Nat} {i : Ins} : gdG P (.one (.g (.bool false))) g false d i l kp k Q s = rg P (⟨d, none, i⟩ :: l) kp k Q (s.fix g false) := by simp [gdG]
theorem c0a {g : Nat} {d : Option Nat} {i : Ins} : gdG P (.one (.g (.bool true))) g false d i l kp k Q s = rg P l kp k Q ((s.fix g true).put d (.tu [])) := by simp [gdG]
theorem c0E {g : Nat} {d : Option Nat} {i : Ins} : gdG P (.one (.g (.bool false))) g true d i l kp k Q s = rg P l kp k Q ((s.fix g false).put d (.tu [])) := by simp [gdG]
theorem b6P {g : Nat} {want : Bool} {d : Option Nat} {i : Ins} : rg P (⟨d, some (g, want), i⟩ :: l) kp k Q s = gdG P (s.tm g) g want d i l kp k Q s := by
 unfold gdG rg
 simp only [a6G, S4]
 split
 ·rename_i b h; rw [h]; cases b <;> cases want <;> simp <;> exact Iff.rfl
 ·rename_i h; rw [h]
 ·all_goals grind
def pkG (P : Program) (v : Val) (a b : Val) (d : Option Nat) (l : List GI) (kp : Option Keep) (k : List KI) (Q : AX → AS → Prop) (s : AS) : Prop :=
 match v with
 | .one (.g (.bool t)) => (t = true → rg P l kp k Q (s.put d a)) ∧ (t = false → rg P l kp k Q (s.put d b))
 | _ => False
theorem d3S {t : Bool} {a b : Val} {d : Option Nat} : pkG P (.one (.g (.bool t))) a b d l kp k Q s = ((t = true → rg P l kp k Q (s.put d a)) ∧ (t = false → rg P l kp k Q (s.put d b))) := (rfl)
theorem a7Y {a b : Val} {d : Option Nat} : pkG P (.one (.g (.bool true))) a b d l kp k Q s = rg P l kp k Q (s.put d a) := by simp [pkG]
theorem a4r {a b : Val} {d : Option Nat} : pkG P (.one (.g (.bool false))) a b d l kp k Q s = rg P l kp k Q (s.put d b) := by simp [pkG]
theorem c2Y {c a b : Opd} {d : Option Nat} : rg P (⟨d, none, .pick c a b⟩ :: l) kp k Q s = pkG P (s.ev c) (s.ev a) (s.ev b) d l kp k Q s := by
 unfold pkG rg
 simp only [a6G, S4, t8]
 all_goals grind
theorem d2C {d : Option Nat} (x : Opd) : rg P (⟨d, none, .mv x⟩ :: l) kp k Q s = sg P (c9 d (.mv x) s) l kp k Q := (rfl)
theorem b6j {d : Option Nat} (z : List Value) : rg P (⟨d, none, .alloc z⟩ :: l) kp k Q s = sg P (c9 d (.alloc z) s) l kp k Q := (rfl)
theorem c9Z {d : Option Nat} (x : Opd) : rg P (⟨d, none, .box x⟩ :: l) kp k Q s = sg P (c9 d (.box x) s) l kp k Q := (rfl)
theorem b9D {d : Option Nat} (z : List Value) (ps : List (Nat × Nat × Opd)) : rg P (⟨d, none, .build z ps⟩ :: l) kp k Q s = sg P (c9 d (.build z ps) s) l kp k Q := (rfl)
theorem b2u {d : Option Nat} (z n : Nat) (ps : List Opd) : rg P (⟨d, none, .bslice z n ps⟩ :: l) kp k Q s = sg P (c9 d (.bslice z n ps) s) l kp k Q := (rfl)
theorem c2T {d : Option Nat} (a : Bool) (n : Nat) (x : Opd) : rg P (⟨d, none, .load a n x⟩ :: l) kp k Q s = sg P (c9 d (.load a n x) s) l kp k Q := (rfl)
theorem b9r {d : Option Nat} (n : Nat) (x y : Opd) : rg P (⟨d, none, .store n x y⟩ :: l) kp k Q s = sg P (c9 d (.store n x y) s) l kp k Q := (rfl)
theorem b3J {d : Option Nat} (x : Opd) : rg P (⟨d, none, .nilchk x⟩ :: l) kp k Q s = sg P (c9 d (.nilchk x) s) l kp k Q := (rfl)
theorem c9p {d : Option Nat} (op : BinOp) (x y : Opd) : rg P (⟨d, none, .bin op x y⟩ :: l) kp k Q s = sg P (c9 d (.bin op x y) s) l kp k Q := (rfl)
theorem c0L {d : Option Nat} (b g : Bool) (ks : List KTy) (x y : Opd) : rg P (⟨d, none, .eqs b g ks x y⟩ :: l) kp k Q s = sg P (c9 d (.eqs b g ks x y) s) l kp k Q := (rfl)
theorem d3J {d : Option Nat} (op : UnOp) (x : Opd) : rg P (⟨d, none, .un op x⟩ :: l) kp k Q s = sg P (c9 d (.un op x) s) l kp k Q := (rfl)
theorem c4I {d : Option Nat} (j : IntKind) (x : Opd) : rg P (⟨d, none, .conv j x⟩ :: l) kp k Q s = sg P (c9 d (.conv j x) s) l kp k Q := (rfl)
theorem c5D {d : Option Nat} (f : FuncId) (cs : List Opd) : rg P (⟨d, none, .mkfn f cs⟩ :: l) kp k Q s = sg P (c9 d (.mkfn f cs) s) l kp k Q := (rfl)
theorem c8l {d : Option Nat} (z : Nat) (x : Opd) (lo hi : Option Opd) : rg P (⟨d, none, .slc z x lo hi⟩ :: l) kp k Q s = sg P (c9 d (.slc z x lo hi) s) l kp k Q := (rfl)
theorem c4i {d : Option Nat} (o : Nat) (x : Opd) : rg P (⟨d, none, .fadr o x⟩ :: l) kp k Q s = sg P (c9 d (.fadr o x) s) l kp k Q := (rfl)
theorem c1H {d : Option Nat} (z : Nat) (x y : Opd) : rg P (⟨d, none, .iadr z x y⟩ :: l) kp k Q s = sg P (c9 d (.iadr z x y) s) l kp k Q := (rfl)
theorem c8q {d : Option Nat} (x y : Opd) : rg P (⟨d, none, .idx x y⟩ :: l) kp k Q s = sg P (c9 d (.idx x y) s) l kp k Q := (rfl)
theorem c1R {d : Option Nat} (x : Opd) (n : Nat) : rg P (⟨d, none, .extr x n⟩ :: l) kp k Q s = sg P (c9 d (.extr x n) s) l kp k Q := (rfl)
theorem c9d {d : Option Nat} (x : Opd) : rg P (⟨d, none, .len x⟩ :: l) kp k Q s = sg P (c9 d (.len x) s) l kp k Q := (rfl)
theorem c4N {d : Option Nat} (x : Opd) : rg P (⟨d, none, .slen x⟩ :: l) kp k Q s = sg P (c9 d (.slen x) s) l kp k Q := (rfl)
theorem d0R {d : Option Nat} (b : Bool) (x y : Opd) : rg P (⟨d, none, .mnx b x y⟩ :: l) kp k Q s = sg P (c9 d (.mnx b x y) s) l kp k Q := (rfl)
theorem c7K {d : Option Nat} (z : Nat) (x y : Opd) : rg P (⟨d, none, .sfx z x y⟩ :: l) kp k Q s = sg P (c9 d (.sfx z x y) s) l kp k Q := (rfl)
theorem d0e {d : Option Nat} (z : Nat) (x y : Opd) : rg P (⟨d, none, .trn z x y⟩ :: l) kp k Q s = sg P (c9 d (.trn z x y) s) l kp k Q := (rfl)
theorem c9E {d : Option Nat} (E : TypeId) (z : Nat) (zero : List Value) (x : Opd) : rg P (⟨d, none, .clr E z zero x⟩ :: l) kp k Q s = sg P (c9 d (.clr E z zero x) s) l kp k Q := (rfl)
theorem c8M {d : Option Nat} (E : TypeId) (z b : Nat) (zero : List Value) (x y : Opd) : rg P (⟨d, none, .mkr E z b zero x y⟩ :: l) kp k Q s = sg P (c9 d (.mkr E z b zero x y) s) l kp k Q := (rfl)
theorem c6M {d : Option Nat} (kc : Nat) : rg P (⟨d, none, .mkm kc⟩ :: l) kp k Q s = sg P (c9 d (.mkm kc) s) l kp k Q := (rfl)
theorem c9j {d : Option Nat} (kc : Nat) (x y z : Opd) : rg P (⟨d, none, .mup kc x y z⟩ :: l) kp k Q s = sg P (c9 d (.mup kc x y z) s) l kp k Q := (rfl)
theorem c5e {d : Option Nat} (n z : Nat) (x y : Opd) : rg P (⟨d, none, .aadr n z x y⟩ :: l) kp k Q s = sg P (c9 d (.aadr n z x y) s) l kp k Q := (rfl)
theorem c1O {d : Option Nat} (x : Opd) (lo hi : Option Opd) : rg P (⟨d, none, .ssub x lo hi⟩ :: l) kp k Q s = sg P (c9 d (.ssub x lo hi) s) l kp k Q := (rfl)
theorem c6L {d : Option Nat} (kc : Nat) (z : Value) (b : Bool) (zn : Nat) (x y : Opd) : rg P (⟨d, none, .mlk kc z b zn x y⟩ :: l) kp k Q s = sg P (c9 d (.mlk kc z b zn x y) s) l kp k Q := (rfl)
theorem c8v {d : Option Nat} (x : Opd) (key : Option Nat) : rg P (⟨d, none, .chk x key⟩ :: l) kp k Q s = sg P (c9 d (.chk x key) s) l kp k Q := (rfl)
theorem b1z {d : Option Nat} (E : TypeId) (z b : Nat) (x y : Opd) : rg P (⟨d, none, .append E z b x y⟩ :: l) kp k Q s = sg P (c9 d (.append E z b x y) s) l kp k Q := (rfl)
def c8Z (P : Program) (f : FuncId) (vargs : List Val) (pl : Bool) (d : Option Nat) (l : List GI) (kp : Option Keep) (k : List KI) (Q : AX → AS → Prop) (s : AS) : Prop :=
 ∃ R, FC P f none vargs R ∧ (∃ cs r, R cs r) ∧ ∀ cs r, R cs r → (Q5 r = true ∨ (N2 r = true ∧ pl = true)) ∧ rg P l kp k Q (s.put d r)
def b4l (P : Program) (f : FuncId) (key : Nat) (cs : List Cel) (vargs : List Val) (d : Option Nat) (l : List GI) (kp : Option Keep) (k : List KI) (Q : AX → AS → Prop) (s : AS) : Prop :=
 ∃ R, FC P f (some cs) vargs R ∧ (∃ cs r, R cs r) ∧ ∀ cs' r, R cs' r → N2 r = true ∧ cs'.all C8 = true ∧ rg P l kp k Q ({ s with bx := upd s.bx key (some cs') }.put d r)
def clG (P : Program) (f : Val) (args : List Val) (d : Option Nat) (l : List GI) (kp : Option Keep) (k : List KI) (Q : AX → AS → Prop) (s : AS) : Prop :=
 a4T P s d f args (rg P l kp k Q)
theorem c3x {f : Opd} {as : List Opd} {d : Option Nat} : rg P (⟨d, none, .call f as⟩ :: l) kp k Q s = clG P (s.ev f) (as.map s.ev) d l kp k Q s := (rfl)
theorem d2O {f : FuncId} {caps : List Cel} {args : List Val} {d : Option Nat} :
  clG P (.one (.fn f caps)) args d l kp k Q s = c8Z P f ((args ++ caps.map Val.one).map s.view) ((args ++ caps.map Val.one).all Z4) d l kp k Q s := (rfl)
def clY (P : Program) (f : Val) (args : List Val) (d : Option Nat) (l : List GI) (kp : Option Keep) (k : List KI) (Q : AX → AS → Prop) (s : AS) : Prop :=
 W9 P s d f args (rg P l kp k Q)
theorem b9B {f : Opd} {as : List Opd} {d : Option Nat} : rg P (⟨d, none, .callx f as⟩ :: l) kp k Q s = clY P (s.ev f) (as.map s.ev) d l kp k Q s := (rfl)
def clX (P : Program) (f key : Nat) (rest : List Val) (d : Option Nat) (l : List GI) (kp : Option Keep) (k : List KI) (Q : AX → AS → Prop) (s : AS) : Option (List Cel) → Prop
 | some cs => W3 key = false ∧ cs.all C6 = true ∧ rest.all Z4 = true ∧ b4l P f key (cs.map s.viewC) (rest.map s.view) d l kp k Q s
 | none => False
theorem d2N {f : FuncId} {key : Nat} {rest : List Val} {d : Option Nat} : clY P (.one (.fn f [])) (.one (.bx key 0) :: rest) d l kp k Q s = clX P f key rest d l kp k Q s (s.bx key) := by
 unfold clY W9 a6g
 simp only []
 cases hs : s.bx key with
 | none => rfl
 | some cs => rfl
theorem b7V {f : FuncId} {key : Nat} {rest : List Val} {d : Option Nat} {cs : List Cel} : clX P f key rest d l kp k Q s (some cs) = (W3 key = false ∧ cs.all C6 = true ∧ rest.all Z4 = true ∧ b4l P f key (cs.map s.viewC) (rest.map s.view) d l kp k Q s) := (rfl)
theorem n6 {f : FuncId} {vargs : List Val} {pl : Bool} {d : Option Nat} {r : Val} (hf : FC P f none vargs (fun _ x => x = r)) (hr : Q5 r = true ∨ (N2 r = true ∧ pl = true)) (h : rg P l kp k Q (s.put d r)) : c8Z P f vargs pl d l kp k Q s :=
 ⟨_, hf, ⟨[], r, rfl⟩, fun _ x hx => by subst hx; exact ⟨hr, h⟩⟩
def a6N (P : Program) (f : FuncId) (H : Hp) (vargs : List Val) (m : CAnn) (d : Option Nat) (l : List GI) (kp : Option Keep) (k : List KI) (Q : AX → AS → Prop) (s : AS) : Prop :=
 ∃ R, G9 P f m.sts H vargs R ∧ (∃ H r, R H r) ∧ ∀ H r, R H r → d3O m H ∧ rg P l kp k Q ((s.after m H).put d (s.backV m r))
def clM (P : Program) (f : Val) (args : List Val) (m : CAnn) (d : Option Nat) (l : List GI) (kp : Option Keep) (k : List KI) (Q : AX → AS → Prop) (s : AS) : Prop :=
 a2r P s d f args m (rg P l kp k Q)
theorem b4V {f : Opd} {as : List Opd} {m : CAnn} {d : Option Nat} : rg P (⟨d, none, .callm f as m⟩ :: l) kp k Q s = clM P (s.ev f) (as.map s.ev) m d l kp k Q s := (rfl)
theorem d4o {f : FuncId} {caps : List Cel} {args : List Val} {m : CAnn} {d : Option Nat} :
  clM P (.one (.fn f caps)) args m d l kp k Q s = (okM s m = true ∧ a6N P f (s.hp m) ((args ++ caps.map Val.one).map (s.passV m)) m d l kp k Q s) := (rfl)
theorem f7 {f : FuncId} {H X : Hp} {Y : Val} {vargs : List Val} {m : CAnn} {d : Option Nat} (hf : G9 P f m.sts H vargs (fun H' r' => H' = X ∧ r' = Y)) (hk : X.bs.map (·.1) = m.obs ∧ X.rs.map (·.1) = m.ors) (h : rg P l kp k Q ((s.after m X).put d (s.backV m Y))) : a6N P f H vargs m d l kp k Q s :=
 ⟨_, hf, ⟨X, Y, rfl, rfl⟩, fun H' r' hx => by obtain ⟨rfl, rfl⟩ := hx; exact ⟨.inl hk, h⟩⟩
def swp (a b k : Nat) : Nat := if k = a then b else if k = b then a else k
theorem s8 (a b k : Nat) : swp a b (swp a b k) = k := by
 unfold swp; split <;> (repeat' split) <;> omega
theorem a5y {f : FuncId} {S : List Nat} {H0 X0 H : Hp} {Y0 : Val} {args0 vargs : List Val} {m : CAnn} {d : Option Nat} (p q : Nat → Nat) (hp : ∀ k, p (p k) = k) (hq : ∀ k, q (q k) = k) (hf : G9 P f S H0 args0 (fun H' r' => H' = X0 ∧ r' = Y0)) (hna : ∀ x ∈ args0, ∀ xs, x ≠ .tu xs)
  (hS : S.map q = m.sts) (hH : H0.rn p q = H) (ha : args0.map (rnV p q) = vargs) (hk : (X0.rn p q).bs.map (·.1) = m.obs ∧ (X0.rn p q).rs.map (·.1) = m.ors) (h : rg P l kp k Q ((s.after m (X0.rn p q)).put d (s.backV m (rnV p q Y0)))) (hb : H0.bs.all (fun x => W3 x.1 == W3 (p x.1)) = true := by rfl) : a6N P f H vargs m d l kp k Q s := by
 subst hH; subst ha
 refine ⟨_, hS ▸ c2u hp hq hna hf hb, ⟨_, _, X0, Y0, ⟨rfl, rfl⟩, rfl, rfl⟩, ?_⟩
 rintro H' r' ⟨H1, r1, ⟨rfl, rfl⟩, rfl, rfl⟩
 exact ⟨.inl hk, h⟩
theorem a8M {f : FuncId} {H0 X0 H : Hp} {Y0 : Val} {args0 vargs : List Val} {bks rks obs ors : List Nat} {d : Option Nat} (p q : Nat → Nat) (hp : ∀ k, p (p k) = k) (hq : ∀ k, q (q k) = k) (hf : FCM P f H0 args0 (fun H' r' => H' = X0 ∧ r' = Y0)) (hna : ∀ x ∈ args0, ∀ xs, x ≠ .tu xs)
  (hH : H0.rn p q = H) (ha : args0.map (rnV p q) = vargs) (hk : (X0.rn p q).bs.map (·.1) = obs ∧ (X0.rn p q).rs.map (·.1) = ors) (h : rg P l kp k Q ((s.after ⟨bks, rks, obs, ors, []⟩ (X0.rn p q)).put d (s.backV ⟨bks, rks, obs, ors, []⟩ (rnV p q Y0)))) (hb : H0.bs.all (fun x => W3 x.1 == W3 (p x.1)) = true := by rfl) : a6N P f H vargs ⟨bks, rks, obs, ors, []⟩ d l kp k Q s :=
 a5y p q hp hq hf hna rfl hH ha hk h hb
theorem c5x {X : Type} (st : X → AS) (μ : X → Nat) (x0 : X) {a : AC} (h0 : s = st x0) (round : ∀ x, ex P a (.lp (fun s' => ∃ y, s' = st y ∧ μ y < μ x) :: k) Q (st x)) : ex P (.loop a) k Q s := by
 refine ⟨fun n s => ∃ x, s = st x ∧ μ x = n, μ x0, ⟨x0, h0, rfl⟩, fun n s ⟨x, hs, hn⟩ => ?_⟩
 subst hs; subst hn
 have h := round x
 refine F8 a _ _ (fun e s h => ?_) _ h
 cases e with
 | nrm => obtain ⟨y, hy, hlt⟩ := h; exact ⟨μ y, hlt, y, hy, rfl⟩
 | ret => exact h
 | ex id => exact h
theorem a1d {X : Type} (st : X → AS) (I : X → Prop) (μ : X → Nat) (x0 : X) {a : AC} (hI : I x0) (h0 : s = st x0) (round : ∀ x, I x → ex P a (.lp (fun s' => ∃ y, I y ∧ s' = st y ∧ μ y < μ x) :: k) Q (st x)) : ex P (.loop a) k Q s := by
 refine c5x (X := { x // I x }) (fun x => st x.1) (fun x => μ x.1) ⟨x0, hI⟩ h0 (fun x => ?_)
 refine F8 a _ _ (fun e s h => ?_) _ (round x.1 x.2)
 cases e with
 | nrm => obtain ⟨y, h1, h2, h3⟩ := h; exact ⟨⟨y, h1⟩, h2, h3⟩
 | ret => exact h
 | ex id => exact h
theorem j9 {X : Type} (st : X → AS) (I : X → Prop) (μ : X → Nat) (x0 : X) {a : AC} (hI : I x0) (h0 : s = st x0) (round : ∀ x, I x → ex P a (.lp (fun s' => ∃ y, s' = st y ∧ I y ∧ μ y < μ x) :: k) Q (st x)) : ex P (.loop a) k Q s := by
 refine a1d st I μ x0 hI h0 (fun x hx => ?_)
 grind
theorem n8 {X Y : Type} (st : X → Y → AS) (I : X → Y → Prop) (μ : X → Y → Nat) (x0 : X) (y0 : Y) {a : AC} (hI : I x0 y0) (h0 : s = st x0 y0)
  (round : ∀ x y, I x y → ex P a (.lp (fun s' => ∃ x' y', s' = st x' y' ∧ I x' y' ∧ μ x' y' < μ x y) :: k) Q (st x y)) : ex P (.loop a) k Q s := by
 refine j9 (fun x : X × Y => st x.1 x.2) (fun x => I x.1 x.2) (fun x => μ x.1 x.2) (x0, y0) hI h0 (fun x hx => ?_)
 refine F8 a _ _ (fun e s h => ?_) _ (round x.1 x.2 hx)
 cases e with
 | nrm => obtain ⟨y, z, h⟩ := h; exact ⟨(y, z), h⟩
 | ret => exact h
 | ex id => exact h
theorem D8 {X Y Z : Type} (st : X → Y → Z → AS) (I : X → Y → Z → Prop) (μ : X → Y → Z → Nat) (x0 : X) (y0 : Y) (z0 : Z) {a : AC} (hI : I x0 y0 z0) (h0 : s = st x0 y0 z0)
  (round : ∀ x y z, I x y z → ex P a (.lp (fun s' => ∃ x' y' z', s' = st x' y' z' ∧ I x' y' z' ∧ μ x' y' z' < μ x y z) :: k) Q (st x y z)) : ex P (.loop a) k Q s := by
 refine j9 (fun x : X × Y × Z => st x.1 x.2.1 x.2.2) (fun x => I x.1 x.2.1 x.2.2) (fun x => μ x.1 x.2.1 x.2.2) (x0, y0, z0) hI h0 (fun x hx => ?_)
 refine F8 a _ _ (fun e s h => ?_) _ (round x.1 x.2.1 x.2.2 hx)
 cases e with
 | nrm => obtain ⟨y, z, t, h⟩ := h; exact ⟨(y, z, t), h⟩
 | ret => exact h
 | ex id => exact h
theorem a8v {X Y Z T : Type} (st : X → Y → Z → T → AS) (I : X → Y → Z → T → Prop) (μ : X → Y → Z → T → Nat) (x0 : X) (y0 : Y) (z0 : Z) (t0 : T) {a : AC} (hI : I x0 y0 z0 t0) (h0 : s = st x0 y0 z0 t0)
  (round : ∀ x y z t, I x y z t → ex P a (.lp (fun s' => ∃ x' y' z' t', s' = st x' y' z' t' ∧ I x' y' z' t' ∧ μ x' y' z' t' < μ x y z t) :: k) Q (st x y z t)) : ex P (.loop a) k Q s := by
 refine j9 (fun x : X × Y × Z × T => st x.1 x.2.1 x.2.2.1 x.2.2.2) (fun x => I x.1 x.2.1 x.2.2.1 x.2.2.2) (fun x => μ x.1 x.2.1 x.2.2.1 x.2.2.2) (x0, y0, z0, t0) hI h0 (fun x hx => ?_)
 refine F8 a _ _ (fun e s h => ?_) _ (round x.1 x.2.1 x.2.2.1 x.2.2.2 hx)
 cases e with
 | nrm => obtain ⟨y, z, t, r, h⟩ := h; exact ⟨(y, z, t, r), h⟩
 | ret => exact h
 | ex id => exact h
def rnd (P : Program) (a : AC) (k : List KI) (Q : AX → AS → Prop) : Nat → AS → Prop
 | 0, _ => False
 | n + 1, s => ex P a (.lp (rnd P a k Q n) :: k) Q s
theorem b7C {a : AC} {n : Nat} : rnd P a k Q (n + 1) s = ex P a (.lp (rnd P a k Q n) :: k) Q s := (rfl)
theorem X7 (n : Nat) {a : AC} (h : rnd P a k Q n s) : ex P (.loop a) k Q s := by
 refine ⟨fun n s => rnd P a k Q n s, n, h, fun n s h => ?_⟩
 cases n with
 | zero => exact h.elim
 | succ n =>
  refine F8 a _ _ (fun e s h => ?_) _ h
  cases e with
  | nrm => exact ⟨n, Nat.lt_succ_self n, h⟩
  | ret => exact h
  | ex id => exact h
attribute [go_sem] b7C
/-! ### the steps, by the shape of what they are handed -/
section
variable {P : Program} {Q : AX → AS → Prop} {s : AS} {d : Option Nat}
theorem d5U {n : Nat} : s.ev (.t n) = s.tm n := (rfl)
theorem d5t {x : Value} : s.ev (.v x) = ofV x := (rfl)
theorem d6a {n : Nat} : s.ev (.b n) = d4k (s.tm n) := (rfl)
theorem d6k {n : Nat} : s.ev (.s n) = d4w (s.tm n) := (rfl)
theorem d0A {b : ByteArray} : d4k (.one (.g (.string b))) = .one (.sl true 1 (c5r b)) := (rfl)
theorem d5h {n : FuncId} : s.ev (.f n) = .one (.fn n []) := (rfl)
theorem c2G {k : IntKind} {n : Int} : ofV (.int k n) = .one (.g (.int k n)) := (rfl)
theorem b6B {b : Bool} : ofV (.bool b) = .one (.g (.bool b)) := (rfl)
theorem a8W {b : ByteArray} : ofV (.string b) = .one (.g (.string b)) := (rfl)
theorem b1s {a : Option Addr} {n c : Nat} : ofV (.slice a n c) = .one (.g (.slice a n c)) := (rfl)
theorem c5A {a : Option Addr} : ofV (.pointer a) = .one (.g (.pointer a)) := (rfl)
theorem c3S {a : Option Nat} : ofV (.map a) = .one (.g (.map a)) := (rfl)
theorem b8A : ofV .nilFunc = .one (.g .nilFunc) := (rfl)
theorem b7g : ofV .nilIface = .one (.g .nilIface) := (rfl)
theorem b5e {k : Nat} {v : Val} : s.put (some k) v = { s with tm := upd s.tm k v } := (rfl)
theorem b7f {v : Val} : s.put none v = s := (rfl)
theorem d1n {g : Nat} {b : Bool} : s.fix g b = { s with tm := upd s.tm g (bv b) } := (rfl)
theorem d5W {x : Opd} : c9 d (.mv x) s = .ok (s.put d (s.ev x)) := (rfl)
def a2J (s : AS) (k : Nat) (zero : List Cel) : Option (List Cel) → SRes
 | none => if k = 0 then .bad else .ok { s with tm := upd s.tm k (.one (.bx k 0)), bx := upd s.bx k (some zero) }
 | some _ => .bad
theorem a6t {k : Nat} {z : List Cel} : a2J s k z none = if k = 0 then .bad else .ok { s with tm := upd s.tm k (.one (.bx k 0)), bx := upd s.bx k (some z) } := (rfl)
theorem c3Q {k : Nat} {z : List Value} : c9 (some k) (.alloc z) s = a2J s k (z.map .g) (s.bx k) := by unfold a2J; simp only [c9]; first | done | rfl
def d4f (s : AS) (k : Nat) : Option (List Cel) → SRes
 | some cs => a2J s k cs (s.bx k)
 | none => .bad
theorem b1R {k : Nat} {cs : List Cel} : d4f s k (some cs) = a2J s k cs (s.bx k) := (rfl)
theorem c1z {k : Nat} (h : 1000000 ≤ k) (h' : k < 1900000) : W3 k = false := by unfold W3; rw [decide_eq_false (by omega), decide_eq_false (by omega)]; rfl
theorem d1Q {k : Nat} {x : Opd} : c9 (some k) (.box x) s = d4f s k (u4 (s.ev x)) := by
 unfold d4f a2J; simp only [c9]; cases u4 (s.ev x) <;> rfl
theorem a8T {c : Cel} : u4 (.one c) = some [c] := (rfl)
theorem b3r {cs : List Cel} : u4 (.ag cs) = some cs := (rfl)
def d2U (acc : Option (List Cel)) (off n : Nat) (x : Option (List Cel)) : Option (List Cel) :=
 match acc, x with
 | some cs, some news => if news.length = n ∧ off + n ≤ cs.length then some (wr cs off news) else none
 | _, _ => none
theorem b4o {cs news : List Cel} {off n : Nat} : d2U (some cs) off n (some news) = if news.length = n ∧ off + n ≤ cs.length then some (wr cs off news) else none := (rfl)
def c2c (s : AS) : Option (List Cel) → List (Nat × Nat × Opd) → Option (List Cel)
 | acc, [] => acc
 | acc, p :: l => c2c s (d2U acc p.1 p.2.1 (u4 (s.ev p.2.2))) l
theorem b7J {acc : Option (List Cel)} : c2c s acc [] = acc := (rfl)
theorem b4v {acc : Option (List Cel)} {a b : Nat} {x : Opd} {l : List (Nat × Nat × Opd)} : c2c s acc ((a, b, x) :: l) = c2c s (d2U acc a b (u4 (s.ev x))) l := (rfl)
def agS (s : AS) (d : Option Nat) : Option (List Cel) → SRes
 | some cs => .ok (s.put d (.ag cs))
 | none => .bad
theorem b7Y {cs : List Cel} : agS s d (some cs) = .ok (s.put d (.ag cs)) := (rfl)
theorem c4J {z : List Value} {ps : List (Nat × Nat × Opd)} : c9 d (.build z ps) s = agS s d (c2c s (some (z.map .g)) ps) := by
 have h : ∀ (ps : List (Nat × Nat × Opd)) (acc : Option (List Cel)), c2c s acc ps = ps.foldl (fun acc p => match acc, u4 (s.ev p.2.2) with
   | some cs, some news => if news.length = p.2.1 ∧ p.1 + p.2.1 ≤ cs.length then some (wr cs p.1 news) else none
   | _, _ => none) acc := by
  intro ps
  induction ps with
  | nil => intro acc; rfl
  | cons p ps ih => intro acc; simp only [c2c, List.foldl_cons, ih]; rfl
 unfold agS; rw [h]; rfl
def d3R (s : AS) (d : Option Nat) (z len n : Nat) : Option (List (List Cel)) → SRes
 | some es => if es.all (fun e => e.length = z && e.all Cel.isD) && n = len then .ok (s.put d (.one (.sl (frE es) z es))) else .bad
 | none => .bad
theorem b3k {z len n : Nat} {es : List (List Cel)} : d3R s d z len n (some es) = if es.all (fun e => e.length = z && e.all Cel.isD) && n = len then .ok (s.put d (.one (.sl (frE es) z es))) else .bad := (rfl)
def cellsL (s : AS) : List Opd → Option (List (List Cel))
 | [] => some []
 | x :: l => consL (u4 (s.ev x)) (cellsL s l)
where consL : Option (List Cel) → Option (List (List Cel)) → Option (List (List Cel))
 | some e, some es => some (e :: es)
 | _, _ => none
theorem a9G : cellsL s [] = some [] := (rfl)
theorem a6j {x : Opd} {l : List Opd} : cellsL s (x :: l) = cellsL.consL (u4 (s.ev x)) (cellsL s l) := (rfl)
theorem a9e {e : List Cel} {es : List (List Cel)} : cellsL.consL (some e) (some es) = some (e :: es) := (rfl)
theorem b9u {z len : Nat} {ps : List Opd} : c9 d (.bslice z len ps) s = d3R s d z len ps.length (cellsL s ps) := by
 have h : ∀ ps : List Opd, cellsL s ps = ps.mapM (fun p => u4 (s.ev p)) := by
  intro ps
  induction ps with
  | nil => rfl
  | cons p ps ih =>
   simp only [cellsL, ih, List.mapM_cons]
   cases u4 (s.ev p) <;> cases ps.mapM (fun p => u4 (s.ev p)) <;> rfl
 unfold d3R; rw [h]; rfl
def ldB (s : AS) (d : Option Nat) (agg : Bool) (n off : Nat) : Option (List Cel) → SRes
 | some cs => Q1 s d agg n (cs.drop off)
 | none => .bad
theorem b5F {agg : Bool} {n off : Nat} {cs : List Cel} : ldB s d agg n off (some cs) = Q1 s d agg n (cs.drop off) := (rfl)
def ldE (s : AS) (d : Option Nat) (agg : Bool) (n off : Nat) : Option (List Cel) → SRes
 | some e => Q1 s d agg n (e.drop off)
 | none => .bad
theorem b5E {agg : Bool} {n off : Nat} {e : List Cel} : ldE s d agg n off (some e) = Q1 s d agg n (e.drop off) := (rfl)
def ldR (s : AS) (d : Option Nat) (agg : Bool) (n ver i off : Nat) : Option Row → SRes
 | some r => if ver = r.ver then ldE s d agg n off r.es[i]? else .bad
 | none => .bad
theorem b6o {agg : Bool} {n ver i off v : Nat} {E : TypeId} {z : Nat} {es : List (List Cel)} : ldR s d agg n ver i off (some ⟨v, E, z, es⟩) = if ver = v then ldE s d agg n off es[i]? else .bad := (rfl)
def ldS (s : AS) (d : Option Nat) (agg : Bool) (n : Nat) : Val → SRes
 | .one (.bx k off) => ldB s d agg n off (s.bx k)
 | .one (.ep cs) => Q1 s d agg n (cs.map Cel.dat)
 | .one (.op k ver i off) => ldR s d agg n ver i off (s.rw k)
 | _ => .bad
theorem d0q {agg : Bool} {n k off : Nat} : ldS s d agg n (.one (.bx k off)) = ldB s d agg n off (s.bx k) := (rfl)
theorem d0J {agg : Bool} {n : Nat} {cs : List Cel} : ldS s d agg n (.one (.ep cs)) = Q1 s d agg n (cs.map Cel.dat) := (rfl)
theorem c8a {agg : Bool} {n k ver i off : Nat} : ldS s d agg n (.one (.op k ver i off)) = ldR s d agg n ver i off (s.rw k) := (rfl)
theorem c9X {agg : Bool} {n : Nat} {x : Opd} : c9 d (.load agg n x) s = ldS s d agg n (s.ev x) := by
 unfold ldS ldB ldR ldE; simp only [c9]; first | done | rfl
theorem a9q {n : Nat} {cs : List Cel} : Q1 s d true n cs = .need (n ≤ cs.length) (s.put d (.ag (cs.take n))) := (rfl)
theorem a6a {n : Nat} {c : Cel} {cs : List Cel} : Q1 s d false n (c :: cs) = .ok (s.put d (.one c)) := (rfl)
theorem d2f {v : Value} : (Cel.g v).dat = .g v := (rfl)
theorem c9y {fr : Bool} {z : Nat} {es : List (List Cel)} : (Cel.sl fr z es).dat = .sl false z es := (rfl)
theorem c5d : Cel.any.dat = .any := (rfl)
def stB (s : AS) (d : Option Nat) (n k off : Nat) (news : List Cel) : Option (List Cel) → SRes
 | some cs => if news.length = n then .need (off + n ≤ cs.length) ({ s with bx := upd s.bx k (some (wr cs off news)) }.put d .any) else .bad
 | none => .bad
theorem b6w {n k off : Nat} {cs news : List Cel} : stB s d n k off news (some cs) = if news.length = n then .need (off + n ≤ cs.length) ({ s with bx := upd s.bx k (some (wr cs off news)) }.put d .any) else .bad := (rfl)
def stE (s : AS) (d : Option Nat) (n k i off : Nat) (news : List Cel) (r : Row) : Option (List Cel) → SRes
 | some e => .need (off + n ≤ e.length) ({ s with rw := upd s.rw k (some { r with es := r.es.set i (wr e off news) }) }.put d .any)
 | none => .bad
theorem b7Z {n k i off : Nat} {e news : List Cel} {r : Row} : stE s d n k i off news r (some e) = .need (off + n ≤ e.length) ({ s with rw := upd s.rw k (some { r with es := r.es.set i (wr e off news) }) }.put d .any) := (rfl)
def stR (s : AS) (d : Option Nat) (n k ver i off : Nat) (news : List Cel) : Option Row → SRes
 | some r => if ver = r.ver && news.length = n && news.all Cel.isD then stE s d n k i off news r r.es[i]? else .bad
 | none => .bad
theorem b8F {n k ver i off : Nat} {news : List Cel} {v : Nat} {E : TypeId} {z : Nat} {es : List (List Cel)} : stR s d n k ver i off news (some ⟨v, E, z, es⟩) = if ver = v && news.length = n && news.all Cel.isD then stE s d n k i off news ⟨v, E, z, es⟩ es[i]? else .bad := (rfl)
def stS (s : AS) (d : Option Nat) (n : Nat) : Val → Option (List Cel) → SRes
 | .one (.bx k off), some news => stB s d n k off news (s.bx k)
 | .one (.op k ver i off), some news => stR s d n k ver i off news (s.rw k)
 | _, _ => .bad
theorem c8y {n k off : Nat} {news : List Cel} : stS s d n (.one (.bx k off)) (some news) = stB s d n k off news (s.bx k) := (rfl)
theorem c9q {n k ver i off : Nat} {news : List Cel} : stS s d n (.one (.op k ver i off)) (some news) = stR s d n k ver i off news (s.rw k) := (rfl)
theorem c2C {n : Nat} {x v : Opd} : c9 d (.store n x v) s = stS s d n (s.ev x) (u4 (s.ev v)) := by
 unfold stS stB stR stE; simp only [c9]; first | done | rfl
def nlR (s : AS) (d : Option Nat) (k ver i off : Nat) : Option Row → SRes
 | some r => if ver = r.ver then .ok (s.put d (.one (.op k ver i off))) else .bad
 | none => .bad
theorem b7G {k ver i off v : Nat} {E : TypeId} {z : Nat} {es : List (List Cel)} : nlR s d k ver i off (some ⟨v, E, z, es⟩) = if ver = v then .ok (s.put d (.one (.op k ver i off))) else .bad := (rfl)
def nlS (s : AS) (d : Option Nat) : Val → SRes
 | .one (.bx k off) => .ok (s.put d (.one (.bx k off)))
 | .one (.ep cs) => .ok (s.put d (.one (.ep cs)))
 | .one (.op k ver i off) => nlR s d k ver i off (s.rw k)
 | _ => .bad
theorem c6K {k off : Nat} : nlS s d (.one (.bx k off)) = .ok (s.put d (.one (.bx k off))) := (rfl)
theorem d0F {cs : List Cel} : nlS s d (.one (.ep cs)) = .ok (s.put d (.one (.ep cs))) := (rfl)
theorem c9n {k ver i off : Nat} : nlS s d (.one (.op k ver i off)) = nlR s d k ver i off (s.rw k) := (rfl)
def eqS (s : AS) (d : Option Nat) (neg : Bool) : Option Bool → SRes
 | some b => .ok (s.put d (bv (if neg then !b else b)))
 | none => .bad
theorem d3r {b : Bool} : eqS s d true (some b) = .ok (s.put d (.one (.g (.bool (!b))))) := by simp [eqS, bv]
theorem d2F {b : Bool} : eqS s d false (some b) = .ok (s.put d (.one (.g (.bool b)))) := by simp [eqS, bv]
theorem d2X {neg agg : Bool} {ks : List KTy} {x y : Opd} : c9 d (.eqs neg agg ks x y) s = eqS s d neg (eqV agg ks (s.ev x) (s.ev y)) := by
 unfold eqS; simp only [c9]; first | done | rfl
theorem c8c {ks : List KTy} {cs ds : List Cel} : eqV true ks (.ag cs) (.ag ds) = eqL ks cs ds := (rfl)
theorem c5l {ks : List KTy} {c e : Cel} : eqV false ks (.one c) (.one e) = eqL ks [c] [e] := (rfl)
theorem c1x : eqL [] [] [] = some true := (rfl)
def d4N : Option Bool → Option Bool → Option Bool
 | some a, some b => some (a && b)
 | _, _ => none
theorem b1K {a b : Bool} : d4N (some a) (some b) = some (a && b) := (rfl)
theorem b5n {k : KTy} {ks : List KTy} {c e : Cel} {cs ds : List Cel} : eqL (k :: ks) (c :: cs) (e :: ds) = d4N (eqK k c e) (eqL ks cs ds) := (rfl)
theorem d3E {k : IntKind} {a b : Int} : eqK (.i k) (.g (.int k a)) (.g (.int k b)) = some (decide (a = b)) := by simp [eqK]
theorem d3P {a b : Bool} : eqK .b (.g (.bool a)) (.g (.bool b)) = some (decide (a = b)) := (rfl)
theorem d2x {a b : ByteArray} : eqK .s (.g (.string a)) (.g (.string b)) = some (a.toList == b.toList) := (rfl)
theorem c1o {fr : Bool} {z n c : Nat} {e : List Cel} {es : List (List Cel)} : eqK .ns (.sl fr z (e :: es)) (.g (.slice none n c)) = some false := (rfl)
theorem c1Y {n c n' c' : Nat} : eqK .ns (.g (.slice none n' c')) (.g (.slice none n c)) = some true := (rfl)
theorem c2y {k off : Nat} : eqK .np (.bx k off) (.g (.pointer none)) = some false := (rfl)
theorem c2j {cs : List Cel} : eqK .np (.ep cs) (.g (.pointer none)) = some false := (rfl)
theorem c2W : eqK .np (.g (.pointer none)) (.g (.pointer none)) = some true := (rfl)
theorem c5b : eqK .ni (.g .nilIface) (.g .nilIface) = some true := (rfl)
theorem c5B {t : TypeId} {v : Value} : eqK .ni (.g (.iface t v)) (.g .nilIface) = some false := (rfl)
theorem b4X {x : Opd} : c9 d (.nilchk x) s = nlS s d (s.ev x) := by unfold nlS nlR; simp only [c9]; first | done | rfl
theorem d3c {op : BinOp} {x y : Opd} : c9 d (.bin op x y) s = M4 s d op (s.ev x) (s.ev y) := (rfl)
section
variable {k : IntKind} {a b : Int}
theorem c4q : M4 s d .add (.one (.g (.int k a))) (.one (.g (.int k b))) = .ok (s.put d (.one (.g (.int k (k.wrap (a + b)))))) := by simp [M4, ki]
theorem c4a : M4 s d .sub (.one (.g (.int k a))) (.one (.g (.int k b))) = .ok (s.put d (.one (.g (.int k (k.wrap (a - b)))))) := by simp [M4, ki]
theorem c1T : M4 s d .mul (.one (.g (.int k a))) (.one (.g (.int k b))) = .ok (s.put d (.one (.g (.int k (k.wrap (a * b)))))) := by simp [M4, ki]
theorem c4M : M4 s d .quo (.one (.g (.int k a))) (.one (.g (.int k b))) = .need (b ≠ 0) (s.put d (.one (.g (.int k (k.wrap (a.tdiv b)))))) := by simp [M4, ki]
theorem c2H : M4 s d .rem (.one (.g (.int k a))) (.one (.g (.int k b))) = .need (b ≠ 0) (s.put d (.one (.g (.int k (a.tmod b))))) := by simp [M4, ki]
theorem c4e : M4 s d .eql (.one (.g (.int k a))) (.one (.g (.int k b))) = .ok (s.put d (.one (.g (.bool (decide (a = b)))))) := by
 simp only [M4, bv, if_true]; congr 4
theorem c4n : M4 s d .neq (.one (.g (.int k a))) (.one (.g (.int k b))) = .ok (s.put d (.one (.g (.bool (decide (a ≠ b)))))) := by
 simp only [M4, bv, if_true]; congr 4; by_cases h : a = b <;> simp [h]
theorem c3D : M4 s d .lss (.one (.g (.int k a))) (.one (.g (.int k b))) = .ok (s.put d (.one (.g (.bool (decide (a < b)))))) := by simp [M4, bv]
theorem c0W : M4 s d .leq (.one (.g (.int k a))) (.one (.g (.int k b))) = .ok (s.put d (.one (.g (.bool (decide (a ≤ b)))))) := by simp [M4, bv]
theorem c2K : M4 s d .gtr (.one (.g (.int k a))) (.one (.g (.int k b))) = .ok (s.put d (.one (.g (.bool (decide (b < a)))))) := by simp [M4, bv]
theorem c2X : M4 s d .geq (.one (.g (.int k a))) (.one (.g (.int k b))) = .ok (s.put d (.one (.g (.bool (decide (b ≤ a)))))) := by simp [M4, bv]
theorem c1G : M4 s d .and (.one (.g (.int k a))) (.one (.g (.int k b))) = .ok (s.put d (.one (.g (.int k (bits .and k a b))))) := by simp [M4, ki]
theorem c8h : M4 s d .or (.one (.g (.int k a))) (.one (.g (.int k b))) = .ok (s.put d (.one (.g (.int k (bits .or k a b))))) := by simp [M4, ki]
theorem c2q : M4 s d .xor (.one (.g (.int k a))) (.one (.g (.int k b))) = .ok (s.put d (.one (.g (.int k (bits .xor k a b))))) := by simp [M4, ki]
theorem c3F {k' : IntKind} : M4 s d .shr (.one (.g (.int k a))) (.one (.g (.int k' b))) = .need (0 ≤ b) (s.put d (.one (.g (.int k (a.fdiv (2 ^ (min b.toNat k.bits))))))) := by cases k <;> cases k' <;> rfl
theorem c2p {k' : IntKind} : M4 s d .shl (.one (.g (.int k a))) (.one (.g (.int k' b))) = .need (0 ≤ b) (s.put d (.one (.g (.int k (k.wrap (a * 2 ^ (min b.toNat k.bits))))))) := by cases k <;> cases k' <;> rfl
end
section
variable {a b : ByteArray}
theorem b4H : M4 s d .add (.one (.g (.string a))) (.one (.g (.string b))) = .need (((a.size + b.size : Nat) : Int) ≤ 9223372036854775807) (s.put d (.one (.g (.string (a ++ b))))) := (rfl)
theorem b5W : M4 s d .eql (.one (.g (.string a))) (.one (.g (.string b))) = .ok (s.put d (.one (.g (.bool (a.toList == b.toList))))) := (rfl)
theorem b4U : M4 s d .neq (.one (.g (.string a))) (.one (.g (.string b))) = .ok (s.put d (.one (.g (.bool (!(a.toList == b.toList)))))) := (rfl)
theorem b7K : M4 s d .lss (.one (.g (.string a))) (.one (.g (.string b))) = .ok (s.put d (.one (.g (.bool (Op.bytesLess a.toList b.toList))))) := (rfl)
theorem b4S : M4 s d .leq (.one (.g (.string a))) (.one (.g (.string b))) = .ok (s.put d (.one (.g (.bool (Op.bytesLess a.toList b.toList || a.toList == b.toList))))) := (rfl)
theorem b6g : M4 s d .gtr (.one (.g (.string a))) (.one (.g (.string b))) = .ok (s.put d (.one (.g (.bool (!(Op.bytesLess a.toList b.toList || a.toList == b.toList)))))) := (rfl)
theorem b7c : M4 s d .geq (.one (.g (.string a))) (.one (.g (.string b))) = .ok (s.put d (.one (.g (.bool (!Op.bytesLess a.toList b.toList))))) := (rfl)
end
def unS (s : AS) (d : Option Nat) (op : UnOp) (v : Val) : SRes :=
 match op, v with
 | .not, .one (.g (.bool b)) => .ok (s.put d (bv (!b)))
 | .neg, .one (.g (.int k a)) => .ok (s.put d (ki k (k.wrap (0 - a))))
 | _, _ => .bad
theorem d5b {op : UnOp} {x : Opd} : c9 d (.un op x) s = unS s d op (s.ev x) := by unfold unS; simp only [c9]; first | done | rfl
theorem c7B {b : Bool} : unS s d .not (.one (.g (.bool b))) = .ok (s.put d (.one (.g (.bool (!b))))) := (rfl)
theorem c7h {k : IntKind} {a : Int} : unS s d .neg (.one (.g (.int k a))) = .ok (s.put d (.one (.g (.int k (k.wrap (0 - a)))))) := (rfl)
def cvS (s : AS) (d : Option Nat) (k : IntKind) : Val → SRes
 | .one (.g (.int _ a)) => .ok (s.put d (ki k (k.wrap a)))
 | _ => .bad
theorem d0c {k : IntKind} {x : Opd} : c9 d (.conv k x) s = cvS s d k (s.ev x) := by unfold cvS; simp only [c9]; first | done | rfl
theorem c5p {k k' : IntKind} {a : Int} : cvS s d k (.one (.g (.int k' a))) = .ok (s.put d (.one (.g (.int k (k.wrap a))))) := (rfl)
def capL (s : AS) : List Opd → Option (List Cel)
 | [] => some []
 | x :: l => consC (s.ev x) (capL s l)
where consC : Val → Option (List Cel) → Option (List Cel)
 | .one (.bx k off), some cs => some (.bx k off :: cs)
 | .one (.g v), some cs => some (.g v :: cs)
 | _, _ => none
theorem b4T : capL s [] = some [] := (rfl)
theorem b3M {x : Opd} {l : List Opd} : capL s (x :: l) = capL.consC (s.ev x) (capL s l) := (rfl)
theorem b8O {k off : Nat} {cs : List Cel} : capL.consC (.one (.bx k off)) (some cs) = some (.bx k off :: cs) := (rfl)
theorem c4d {v : Value} {cs : List Cel} : capL.consC (.one (.g v)) (some cs) = some (.g v :: cs) := (rfl)
def mkS (s : AS) (d : Option Nat) (f : FuncId) : Option (List Cel) → SRes
 | some cs => .ok (s.put d (.one (.fn f cs)))
 | none => .bad
theorem b5U {f : FuncId} {cs : List Cel} : mkS s d f (some cs) = .ok (s.put d (.one (.fn f cs))) := (rfl)
theorem c9s {f : FuncId} {xs : List Opd} : c9 d (.mkfn f xs) s = mkS s d f (capL s xs) := by
 have h : ∀ ps : List Opd, capL s ps = ps.mapM (fun p => match s.ev p with | .one (.bx k off) => some (Cel.bx k off) | .one (.g v) => some (Cel.g v) | _ => none) := by
  intro ps
  induction ps with
  | nil => rfl
  | cons p ps ih =>
   simp only [capL, ih, List.mapM_cons]
   generalize s.ev p = v
   generalize (ps.mapM (m := Option) _) = r
   cases v <;> try (cases r <;> rfl)
   rename_i c; cases c <;> cases r <;> rfl
 unfold mkS; rw [h]; rfl
def wsR (s : AS) (d : Option Nat) (z k ver : Nat) (l h : Int) : Option Row → SRes
 | some r => if ver = r.ver ∧ z = r.z then .need (0 ≤ l ∧ l ≤ h ∧ h ≤ r.es.length ∧ 0 < r.es.length) (s.put d (.one (.ws k ver l.toNat h.toNat))) else .bad
 | none => .bad
def slS (s : AS) (d : Option Nat) (z : Nat) (x : Val) (lo hi : Option Val) : SRes :=
 match x, lo, hi with
 | .one (.sl fr z' es), none, none => if z = z' then .ok (s.put d (.one (.sl fr z es))) else .bad
 | .one (.sl fr z' es), some (.one (.g (.int _ l))), none => if z = z' then .need (0 ≤ l ∧ l ≤ es.length) (s.put d (.one (.sl fr z (es.drop l.toNat)))) else .bad
 | .one (.sl fr z' es), none, some (.one (.g (.int _ h))) => if z = z' then .need (0 ≤ h ∧ h ≤ es.length) (s.put d (.one (.sl fr z (es.take h.toNat)))) else .bad
 | .one (.sl fr z' es), some (.one (.g (.int _ l))), some (.one (.g (.int _ h))) => if z = z' then .need (0 ≤ l ∧ l ≤ h ∧ h ≤ es.length) (s.put d (.one (.sl fr z ((es.take h.toNat).drop l.toNat)))) else .bad
 | .one (.ow k ver), some (.one (.g (.int _ l))), some (.one (.g (.int _ h))) => wsR s d z k ver l h (s.rw k)
 | _, _, _ => .bad
theorem b7b {z k ver v : Nat} {l h : Int} {E : TypeId} {es : List (List Cel)} : wsR s d z k ver l h (some ⟨v, E, z, es⟩) = if ver = v then .need (0 ≤ l ∧ l ≤ h ∧ h ≤ es.length ∧ 0 < es.length) (s.put d (.one (.ws k ver l.toNat h.toNat))) else .bad := by simp [wsR]
theorem d2G {z : Nat} {x : Opd} {lo hi : Option Opd} : c9 d (.slc z x lo hi) s = slS s d z (s.ev x) (lo.map s.ev) (hi.map s.ev) := by unfold slS wsR; simp only [c9]; first | done | rfl
section
variable {fr : Bool} {z : Nat} {es : List (List Cel)} {k k' : IntKind} {l h : Int}
theorem c7t : slS s d z (.one (.sl fr z es)) none none = .ok (s.put d (.one (.sl fr z es))) := by simp [slS]
theorem c7S : slS s d z (.one (.sl fr z es)) (some (.one (.g (.int k l)))) none = .need (0 ≤ l ∧ l ≤ es.length) (s.put d (.one (.sl fr z (es.drop l.toNat)))) := by simp [slS]
theorem c9U : slS s d z (.one (.sl fr z es)) none (some (.one (.g (.int k h)))) = .need (0 ≤ h ∧ h ≤ es.length) (s.put d (.one (.sl fr z (es.take h.toNat)))) := by simp [slS]
theorem c7Z {j ver : Nat} : slS s d z (.one (.ow j ver)) (some (.one (.g (.int k l)))) (some (.one (.g (.int k' h)))) = wsR s d z j ver l h (s.rw j) := (rfl)
theorem c7P : slS s d z (.one (.sl fr z es)) (some (.one (.g (.int k l)))) (some (.one (.g (.int k' h)))) = .need (0 ≤ l ∧ l ≤ h ∧ h ≤ es.length) (s.put d (.one (.sl fr z ((es.take h.toNat).drop l.toNat)))) := by simp [slS]
end
def faR (s : AS) (d : Option Nat) (off k ver i o : Nat) : Option Row → SRes
 | some r => if ver = r.ver then .ok (s.put d (.one (.op k ver i (o + off)))) else .bad
 | none => .bad
theorem b8a {off k ver i o v : Nat} {E : TypeId} {z : Nat} {es : List (List Cel)} : faR s d off k ver i o (some ⟨v, E, z, es⟩) = if ver = v then .ok (s.put d (.one (.op k ver i (o + off)))) else .bad := (rfl)
def faS (s : AS) (d : Option Nat) (off : Nat) : Val → SRes
 | .one (.bx k o) => .ok (s.put d (.one (.bx k (o + off))))
 | .one (.ep cs) => .ok (s.put d (.one (.ep (cs.drop off))))
 | .one (.op k ver i o) => faR s d off k ver i o (s.rw k)
 | _ => .bad
theorem c6Y {off k o : Nat} : faS s d off (.one (.bx k o)) = .ok (s.put d (.one (.bx k (o + off)))) := (rfl)
theorem c8r {off : Nat} {cs : List Cel} : faS s d off (.one (.ep cs)) = .ok (s.put d (.one (.ep (cs.drop off)))) := (rfl)
theorem c7D {off k ver i o : Nat} : faS s d off (.one (.op k ver i o)) = faR s d off k ver i o (s.rw k) := (rfl)
theorem d0v {off : Nat} {x : Opd} : c9 d (.fadr off x) s = faS s d off (s.ev x) := by unfold faS faR; simp only [c9]; first | done | rfl
def flS (s : AS) (d : Option Nat) (off : Nat) (agg : Bool) (n : Nat) : Val → SRes
 | .ag cs => match agg with
  | true => .need (off + n ≤ cs.length) (s.put d (.ag ((cs.drop off).take n)))
  | false => flC s d cs[off]?
 | _ => .bad
where flC (s : AS) (d : Option Nat) : Option Cel → SRes
 | some c => .ok (s.put d (.one c))
 | none => .bad
theorem b9e {c : Cel} : flS.flC s d (some c) = .ok (s.put d (.one c)) := (rfl)
theorem b7y {off n : Nat} {cs : List Cel} : flS s d off true n (.ag cs) = .need (off + n ≤ cs.length) (s.put d (.ag ((cs.drop off).take n))) := (rfl)
theorem b2E {off n : Nat} {cs : List Cel} : flS s d off false n (.ag cs) = flS.flC s d cs[off]? := (rfl)
def iaR (s : AS) (d : Option Nat) (z k ver : Nat) (n : Int) : Option Row → SRes
 | some r => if ver = r.ver ∧ z = r.z then .need (0 ≤ n ∧ n < r.es.length) (s.put d (.one (.op k ver n.toNat 0))) else .bad
 | none => .bad
theorem b6W {z k ver v z' : Nat} {n : Int} {E : TypeId} {es : List (List Cel)} : iaR s d z k ver n (some ⟨v, E, z', es⟩) = if ver = v ∧ z = z' then .need (0 ≤ n ∧ n < es.length) (s.put d (.one (.op k ver n.toNat 0))) else .bad := (rfl)
def iaQ (s : AS) (d : Option Nat) (z k ver lo : Nat) (n : Int) : Option Row → SRes
 | some r => if ver = r.ver ∧ z = r.z then .need (0 ≤ n ∧ lo + n < r.es.length) (s.put d (.one (.op k ver (lo + n.toNat) 0))) else .bad
 | none => .bad
theorem b7D {z k ver lo v z' : Nat} {n : Int} {E : TypeId} {es : List (List Cel)} : iaQ s d z k ver lo n (some ⟨v, E, z', es⟩) = if ver = v ∧ z = z' then .need (0 ≤ n ∧ lo + n < es.length) (s.put d (.one (.op k ver (lo + n.toNat) 0))) else .bad := (rfl)
def iaS (s : AS) (d : Option Nat) (z : Nat) : Val → Val → SRes
 | .one (.sl _ z' es), .one (.g (.int _ n)) => if z = z' then .need (0 ≤ n ∧ n < es.length) (s.put d (.one (.ep (es.getD n.toNat [])))) else .bad
 | .one (.ow k ver), .one (.g (.int _ n)) => iaR s d z k ver n (s.rw k)
 | .one (.os k ver lo), .one (.g (.int _ n)) => iaQ s d z k ver lo n (s.rw k)
 | _, _ => .bad
theorem c8A {fr : Bool} {z : Nat} {es : List (List Cel)} {k : IntKind} {n : Int} : iaS s d z (.one (.sl fr z es)) (.one (.g (.int k n))) = .need (0 ≤ n ∧ n < es.length) (s.put d (.one (.ep (es.getD n.toNat [])))) := by simp [iaS]
theorem c7g {z j ver : Nat} {k : IntKind} {n : Int} : iaS s d z (.one (.ow j ver)) (.one (.g (.int k n))) = iaR s d z j ver n (s.rw j) := (rfl)
theorem c6C {z j ver lo : Nat} {k : IntKind} {n : Int} : iaS s d z (.one (.os j ver lo)) (.one (.g (.int k n))) = iaQ s d z j ver lo n (s.rw j) := (rfl)
theorem c9c {z : Nat} {x i : Opd} : c9 d (.iadr z x i) s = iaS s d z (s.ev x) (s.ev i) := by unfold iaS iaR iaQ; simp only [c9]; first | done | rfl
def aaS (s : AS) (d : Option Nat) (n z : Nat) : Val → Val → SRes
 | .one (.bx k o), .one (.g (.int _ m)) => .need (0 ≤ m ∧ m < n) (s.put d (.one (.bx k (o + m.toNat * z))))
 | .one (.ep cs), .one (.g (.int _ m)) => .need (0 ≤ m ∧ m < n) (s.put d (.one (.ep (cs.drop (m.toNat * z)))))
 | _, _ => .bad
theorem c6g {n z j o : Nat} {k : IntKind} {m : Int} : aaS s d n z (.one (.bx j o)) (.one (.g (.int k m))) = .need (0 ≤ m ∧ m < n) (s.put d (.one (.bx j (o + m.toNat * z)))) := (rfl)
theorem c8F {n z : Nat} {cs : List Cel} {k : IntKind} {m : Int} : aaS s d n z (.one (.ep cs)) (.one (.g (.int k m))) = .need (0 ≤ m ∧ m < n) (s.put d (.one (.ep (cs.drop (m.toNat * z))))) := (rfl)
theorem c7L {n z : Nat} {x i : Opd} : c9 d (.aadr n z x i) s = aaS s d n z (s.ev x) (s.ev i) := by unfold aaS; simp only [c9]; first | done | rfl
def ssS (s : AS) (d : Option Nat) (x : Val) (lo hi : Option Val) : SRes :=
 match x, lo, hi with
 | .one (.g (.string b)), none, none => .ok (s.put d (sv b))
 | .one (.g (.string b)), some (.one (.g (.int _ l))), none => .need (0 ≤ l ∧ l ≤ b.size) (s.put d (sv (b.extract l.toNat b.size)))
 | .one (.g (.string b)), none, some (.one (.g (.int _ h))) => .need (0 ≤ h ∧ h ≤ b.size) (s.put d (sv (b.extract 0 h.toNat)))
 | .one (.g (.string b)), some (.one (.g (.int _ l))), some (.one (.g (.int _ h))) => .need (0 ≤ l ∧ l ≤ h ∧ h ≤ b.size) (s.put d (sv (b.extract l.toNat h.toNat)))
 | _, _, _ => .bad
theorem d0f {x : Opd} {lo hi : Option Opd} : c9 d (.ssub x lo hi) s = ssS s d (s.ev x) (lo.map s.ev) (hi.map s.ev) := by unfold ssS; simp only [c9]; first | done | rfl
section
variable {b : ByteArray} {k k' : IntKind} {l h : Int}
theorem c6O : ssS s d (.one (.g (.string b))) none none = .ok (s.put d (.one (.g (.string b)))) := (rfl)
theorem c9r : ssS s d (.one (.g (.string b))) (some (.one (.g (.int k l)))) none = .need (0 ≤ l ∧ l ≤ b.size) (s.put d (.one (.g (.string (b.extract l.toNat b.size))))) := (rfl)
theorem c7I : ssS s d (.one (.g (.string b))) none (some (.one (.g (.int k h)))) = .need (0 ≤ h ∧ h ≤ b.size) (s.put d (.one (.g (.string (b.extract 0 h.toNat))))) := (rfl)
theorem c8o : ssS s d (.one (.g (.string b))) (some (.one (.g (.int k l)))) (some (.one (.g (.int k' h)))) = .need (0 ≤ l ∧ l ≤ h ∧ h ≤ b.size) (s.put d (.one (.g (.string (b.extract l.toNat h.toNat))))) := (rfl)
end
def ixS (s : AS) (d : Option Nat) : Val → Val → SRes
 | .one (.g (.string b)), .one (.g (.int _ n)) => .need (0 ≤ n ∧ n < b.size) (s.put d (ki .u8 ((b.data.toList.getD n.toNat 0).toNat)))
 | _, _ => .bad
theorem d2m {x i : Opd} : c9 d (.idx x i) s = ixS s d (s.ev x) (s.ev i) := by unfold ixS; simp only [c9]; first | done | rfl
theorem d3o {b : ByteArray} {k : IntKind} {n : Int} : ixS s d (.one (.g (.string b))) (.one (.g (.int k n))) = .need (0 ≤ n ∧ n < b.size) (s.put d (.one (.g (.int .u8 ((b.data.toList.getD n.toNat 0).toNat))))) := (rfl)
def exS (s : AS) (d : Option Nat) (i : Nat) : Val → SRes
 | .tu vs => exV s d vs[i]?
 | _ => .bad
where exV (s : AS) (d : Option Nat) : Option Val → SRes
 | some v => .ok (s.put d v)
 | none => .bad
theorem c7F {x : Opd} {i : Nat} : c9 d (.extr x i) s = exS s d i (s.ev x) := by unfold exS exS.exV; simp only [c9]; first | done | rfl
theorem c6E {i : Nat} {vs : List Val} : exS s d i (.tu vs) = exS.exV s d vs[i]? := (rfl)
theorem b6k {v : Val} : exS.exV s d (some v) = .ok (s.put d v) := (rfl)
def lnR (s : AS) (d : Option Nat) (ver : Nat) : Option Row → SRes
 | some r => if ver = r.ver then .ok (s.put d (iv r.es.length)) else .bad
 | none => .bad
theorem b5j {ver v z : Nat} {E : TypeId} {es : List (List Cel)} : lnR s d ver (some ⟨v, E, z, es⟩) = if ver = v then .ok (s.put d (.one (.g (.int .i64 es.length)))) else .bad := (rfl)
def lnQ (s : AS) (d : Option Nat) (ver lo : Nat) : Option Row → SRes
 | some r => if ver = r.ver then .ok (s.put d (iv (r.es.length - lo))) else .bad
 | none => .bad
theorem b7j {ver lo v z : Nat} {E : TypeId} {es : List (List Cel)} : lnQ s d ver lo (some ⟨v, E, z, es⟩) = if ver = v then .ok (s.put d (.one (.g (.int .i64 (es.length - lo))))) else .bad := (rfl)
def lnS (s : AS) (d : Option Nat) : Val → SRes
 | .one (.sl _ _ es) => .ok (s.put d (iv es.length))
 | .one (.g (.slice _ n _)) => .ok (s.put d (iv n))
 | .one (.ow k ver) => lnR s d ver (s.rw k)
 | .one (.os k ver lo) => lnQ s d ver lo (s.rw k)
 | _ => .bad
theorem c7G {k ver lo : Nat} : lnS s d (.one (.os k ver lo)) = lnQ s d ver lo (s.rw k) := (rfl)
theorem d3G {x : Opd} : c9 d (.len x) s = lnS s d (s.ev x) := by unfold lnS lnR lnQ; simp only [c9]; first | done | rfl
theorem c7j {fr : Bool} {z : Nat} {es : List (List Cel)} : lnS s d (.one (.sl fr z es)) = .ok (s.put d (.one (.g (.int .i64 es.length)))) := (rfl)
theorem c4u {a : Option Addr} {n c : Nat} : lnS s d (.one (.g (.slice a n c))) = .ok (s.put d (.one (.g (.int .i64 n)))) := (rfl)
theorem d0y {k ver : Nat} : lnS s d (.one (.ow k ver)) = lnR s d ver (s.rw k) := (rfl)
def d3j (s : AS) (d : Option Nat) : Val → SRes
 | .one (.g (.string b)) => .ok (s.put d (iv b.size))
 | _ => .bad
theorem c7p {x : Opd} : c9 d (.slen x) s = d3j s d (s.ev x) := by unfold d3j; simp only [c9]; first | done | rfl
theorem d0M {b : ByteArray} : d3j s d (.one (.g (.string b))) = .ok (s.put d (.one (.g (.int .i64 b.size)))) := (rfl)
def mxS (s : AS) (d : Option Nat) (mx : Bool) : Val → Val → SRes
 | .one (.g (.int k a)), .one (.g (.int _ b)) => .ok (s.put d (ki k (if mx then (if b > a then b else a) else (if b < a then b else a))))
 | _, _ => .bad
theorem d2V {mx : Bool} {x y : Opd} : c9 d (.mnx mx x y) s = mxS s d mx (s.ev x) (s.ev y) := by unfold mxS; simp only [c9]; rfl
theorem c1L {k k' : IntKind} {a b : Int} : mxS s d true (.one (.g (.int k a))) (.one (.g (.int k' b))) = .ok (s.put d (.one (.g (.int k (max a b))))) := by
 simp only [mxS, ki, if_true]; congr 5; rw [Int.max_def]; split <;> split <;> omega
theorem c4c {k k' : IntKind} {a b : Int} : mxS s d false (.one (.g (.int k a))) (.one (.g (.int k' b))) = .ok (s.put d (.one (.g (.int k (min a b))))) := by
 simp only [mxS, ki, Bool.false_eq_true, if_false]; congr 5; rw [Int.min_def]; split <;> split <;> omega
def apR (s : AS) (d : Option Nat) (E : TypeId) (z bytes k ver : Nat) (es : List (List Cel)) : Option Row → SRes
 | some r => if ver = r.ver ∧ E = r.E ∧ z = r.z then
   .need ((r.es.length + es.length) * bytes ≤ 140737488355328 ∧ r.es.length + es.length ≤ 9223372036854775807)
    ({ s with rw := upd s.rw k (some { r with ver := r.ver + 1, es := r.es ++ es }) }.put d (.one (.ow k (r.ver + 1)))) else .bad
 | none => .bad
theorem a7R {z bytes k ver v : Nat} {E : TypeId} {es es0 : List (List Cel)} : apR s d E z bytes k ver es (some ⟨v, E, z, es0⟩) = if ver = v then
   .need ((es0.length + es.length) * bytes ≤ 140737488355328 ∧ es0.length + es.length ≤ 9223372036854775807)
    ({ s with rw := upd s.rw k (some ⟨v + 1, E, z, es0 ++ es⟩) }.put d (.one (.ow k (v + 1)))) else .bad := by simp [apR]
def apS (s : AS) (d : Option Nat) (E : TypeId) (z bytes : Nat) : Val → Option (List (List Cel)) → SRes
 | .one (.ow k ver), some es => apR s d E z bytes k ver es (s.rw k)
 | _, _ => .bad
theorem c0b {E : TypeId} {z bytes k ver : Nat} {es : List (List Cel)} : apS s d E z bytes (.one (.ow k ver)) (some es) = apR s d E z bytes k ver es (s.rw k) := (rfl)
theorem e_append {E : TypeId} {z bytes : Nat} {x y : Opd} : c9 d (.append E z bytes x y) s = apS s d E z bytes (s.ev x) (s.src z (s.ev y)) := by unfold apS apR; simp only [c9]; first | done | rfl
theorem d3F {z : Nat} {es : List (List Cel)} : s.src z (.one (.sl true z es)) = some (a1A es) := by simp [AS.src]
theorem d3h {z : Nat} {es : List (List Cel)} : s.src z (.one (.sl false z es)) = some (H4 es) := by simp [AS.src]
theorem c3X {z c : Nat} : s.src z (.one (.g (.slice none 0 c))) = some [] := (rfl)
def d3w (z ver : Nat) : Option Row → Option (List (List Cel))
 | some r => if ver = r.ver ∧ r.z = z then some r.es else none
 | none => none
theorem b2A {z ver v : Nat} {E : TypeId} {es : List (List Cel)} : d3w z ver (some ⟨v, E, z, es⟩) = if ver = v then some es else none := by simp [d3w]
theorem c9Q {z k ver : Nat} : s.src z (.one (.ow k ver)) = d3w z ver (s.rw k) := (rfl)
theorem a7n : H4 [] = [] := (rfl)
theorem a1l {e : List Cel} {es : List (List Cel)} : H4 (e :: es) = e.map Cel.dat :: H4 es := (rfl)
theorem b5p : a1A [] = [] := (rfl)
theorem b1t {e : List Cel} {es : List (List Cel)} : a1A (e :: es) = e.map Cel.tof :: a1A es := (rfl)
theorem d3l {v : Value} : (Cel.g v).tof = .g v := (rfl)
theorem c9S {fr : Bool} {z : Nat} {es : List (List Cel)} : (Cel.sl fr z es).tof = .sl true z es := (rfl)
theorem c5i : Cel.any.tof = .any := (rfl)
theorem c4s : frE [] = true := (rfl)
theorem b9o {e : List Cel} {es : List (List Cel)} : frE (e :: es) = (e.all p9 && frE es) := (rfl)
theorem c4A {es fs : List (List Cel)} : frE (es ++ fs) = (frE es && frE fs) := by simp [frE]
theorem a7f {es fs : List (List Cel)} : H4 (es ++ fs) = H4 es ++ H4 fs := by simp [H4]
theorem b8r {es fs : List (List Cel)} : a1A (es ++ fs) = a1A es ++ a1A fs := by simp [a1A]
def sfR (s : AS) (d : Option Nat) (z k ver : Nat) (l : Int) : Option Row → SRes
 | some r => if ver = r.ver ∧ z = r.z then .need (0 ≤ l ∧ l ≤ r.es.length ∧ 0 < r.es.length) (s.put d (.one (.os k ver l.toNat))) else .bad
 | none => .bad
theorem b7E {z k ver v : Nat} {l : Int} {E : TypeId} {es : List (List Cel)} : sfR s d z k ver l (some ⟨v, E, z, es⟩) = if ver = v then .need (0 ≤ l ∧ l ≤ es.length ∧ 0 < es.length) (s.put d (.one (.os k ver l.toNat))) else .bad := by simp [sfR]
def sfS (s : AS) (d : Option Nat) (z : Nat) : Val → Val → SRes
 | .one (.ow k ver), .one (.g (.int _ l)) => sfR s d z k ver l (s.rw k)
 | _, _ => .bad
theorem c9m {z k ver : Nat} {kk : IntKind} {l : Int} : sfS s d z (.one (.ow k ver)) (.one (.g (.int kk l))) = sfR s d z k ver l (s.rw k) := (rfl)
theorem d2B {z : Nat} {x y : Opd} : c9 d (.sfx z x y) s = sfS s d z (s.ev x) (s.ev y) := by unfold sfS sfR; simp only [c9]; first | done | rfl
def tnR (s : AS) (d : Option Nat) (z k ver : Nat) (h : Int) : Option Row → SRes
 | some r => if ver = r.ver ∧ z = r.z then .need (0 ≤ h ∧ h ≤ r.es.length ∧ 0 < r.es.length) ({ s with rw := upd s.rw k (some { r with ver := r.ver + 1, es := r.es.take h.toNat }) }.put d (.one (.ow k (r.ver + 1)))) else .bad
 | none => .bad
theorem b9a {z k ver v : Nat} {h : Int} {E : TypeId} {es : List (List Cel)} : tnR s d z k ver h (some ⟨v, E, z, es⟩) = if ver = v then .need (0 ≤ h ∧ h ≤ es.length ∧ 0 < es.length) ({ s with rw := upd s.rw k (some ⟨v + 1, E, z, es.take h.toNat⟩) }.put d (.one (.ow k (v + 1)))) else .bad := by simp [tnR]
def tnS (s : AS) (d : Option Nat) (z : Nat) : Val → Val → SRes
 | .one (.ow k ver), .one (.g (.int _ l)) => tnR s d z k ver l (s.rw k)
 | _, _ => .bad
theorem c7w {z k ver : Nat} {kk : IntKind} {l : Int} : tnS s d z (.one (.ow k ver)) (.one (.g (.int kk l))) = tnR s d z k ver l (s.rw k) := (rfl)
theorem d3V {z : Nat} {x y : Opd} : c9 d (.trn z x y) s = tnS s d z (s.ev x) (s.ev y) := by unfold tnS tnR; simp only [c9]; first | done | rfl
def d0o (s : AS) (d : Option Nat) (E : TypeId) (z : Nat) (zero : List Value) (k ver lo : Nat) : Option Row → SRes
 | some r => if ver = r.ver ∧ E = r.E ∧ z = r.z ∧ zero.length = z then .ok ({ s with rw := upd s.rw k (some { r with es := r.es.take lo ++ List.replicate (r.es.length - lo) (zero.map Cel.g) }) }.put d .any) else .bad
 | none => .bad
theorem b1V {z k ver lo v : Nat} {zero : List Value} {E : TypeId} {es : List (List Cel)} : d0o s d E z zero k ver lo (some ⟨v, E, z, es⟩) = if ver = v ∧ zero.length = z then .ok ({ s with rw := upd s.rw k (some ⟨v, E, z, es.take lo ++ List.replicate (es.length - lo) (zero.map Cel.g)⟩) }.put d .any) else .bad := by simp [d0o]
def d3I (s : AS) (d : Option Nat) (E : TypeId) (z : Nat) (zero : List Value) : Val → SRes
 | .one (.os k ver lo) => d0o s d E z zero k ver lo (s.rw k)
 | _ => .bad
theorem c5J {E : TypeId} {z k ver lo : Nat} {zero : List Value} : d3I s d E z zero (.one (.os k ver lo)) = d0o s d E z zero k ver lo (s.rw k) := (rfl)
theorem d2v {E : TypeId} {z : Nat} {zero : List Value} {x : Opd} : c9 d (.clr E z zero x) s = d3I s d E z zero (s.ev x) := by unfold d3I d0o; simp only [c9]; first | done | rfl
def d2s (s : AS) (k kc : Nat) : Option Row → SRes
 | none => if k < XK then .ok { s with tm := upd s.tm k (.one (.mp k)), rw := upd s.rw k (some ⟨0, kc, 0, []⟩) } else .bad
 | some _ => .bad
theorem b1w {k kc : Nat} : d2s s k kc none = if k < XK then .ok { s with tm := upd s.tm k (.one (.mp k)), rw := upd s.rw k (some ⟨0, kc, 0, []⟩) } else .bad := (rfl)
theorem d3U {k kc : Nat} : c9 (some k) (.mkm kc) s = d2s s k kc (s.rw k) := by
 simp only [c9]
 unfold d2s
 grind
def d0m (s : AS) (d : Option Nat) (kc k : Nat) (kv : Value) (c : Cel) : Option Row → SRes
 | some r => if r.z = 0 ∧ r.E = kc ∧ m5 kc kv = true ∧ c.isD = true then .ok ({ s with rw := upd s.rw k (some { r with es := a4e kv c r.es }) }.put d .any) else .bad
 | none => .bad
theorem b3x {kc k v E : Nat} {kv : Value} {c : Cel} {es : List (List Cel)} : d0m s d kc k kv c (some ⟨v, E, 0, es⟩) = if E = kc ∧ m5 kc kv = true ∧ c.isD = true then .ok ({ s with rw := upd s.rw k (some ⟨v, E, 0, a4e kv c es⟩) }.put d .any) else .bad := by simp [d0m]
def d2w (s : AS) (d : Option Nat) (kc : Nat) : Val → Val → Option Cel → SRes
 | .one (.mp k), .one (.g kv), some c => d0m s d kc k kv c (s.rw k)
 | _, _, _ => .bad
theorem c1W {kc k : Nat} {kv : Value} {c : Cel} : d2w s d kc (.one (.mp k)) (.one (.g kv)) (some c) = d0m s d kc k kv c (s.rw k) := (rfl)
theorem d4b {kc : Nat} {x y z : Opd} : c9 d (.mup kc x y z) s = d2w s d kc (s.ev x) (s.ev y) (a9Y kc (s.ev z)) := by unfold d2w d0m; simp only [c9]; first | done | rfl
theorem c6v {c : Cel} : a9Y 0 (.one c) = some c := (rfl)
theorem c6i {c : Cel} : a9Y 4 (.one c) = some c := (rfl)
theorem b2o {a b : Value} : a9Y 16 (.ag [.g a, .g b]) = some (.g (.iface 0 (.agg #[a, b]))) := (rfl)
theorem b4x {a b : Value} : a9Y 20 (.ag [.g a, .g b]) = some (.g (.iface 0 (.agg #[a, b]))) := (rfl)
theorem b2t {a b c : Value} : a9Y 16 (.ag [.g a, .g b, .g c]) = some (.g (.iface 0 (.agg #[a, b, c]))) := (rfl)
theorem b1T {a b c : Value} : a9Y 20 (.ag [.g a, .g b, .g c]) = some (.g (.iface 0 (.agg #[a, b, c]))) := (rfl)
theorem c8G {c : Cel} : a2L 0 c = .one c := (rfl)
theorem d1h {c : Cel} : a2L 4 c = .one c := (rfl)
theorem c1u {c : Cel} : a2L 16 c = c6e c := (rfl)
theorem c4k {c : Cel} : a2L 20 c = c6e c := (rfl)
theorem c7y {t : TypeId} {a b : Value} : c6e (.g (.iface t (.agg #[a, b]))) = .ag [.g a, .g b] := (rfl)
theorem c9h {t : TypeId} {a b c : Value} : c6e (.g (.iface t (.agg #[a, b, c]))) = .ag [.g a, .g b, .g c] := (rfl)
theorem c5E {zn : Nat} {t : TypeId} {v : Value} : a0l zn (.iface t v) = .g (.iface t v) := (rfl)
theorem a5Z {n : Int} : m5 20 (.int .i64 n) = true := (rfl)
theorem a5R {b : ByteArray} : m5 16 (.string b) = true := (rfl)
def c5q (s : AS) (d : Option Nat) (kc : Nat) (zero : Value) (ok : Bool) (kv : Value) : Option Row → SRes
 | some r => if r.z = 0 ∧ r.E = kc ∧ m5 kc kv = true then .ok (s.put d (if ok then .tu [a2L kc ((a0D kv r.es).getD (.g zero)), bv (a0D kv r.es).isSome] else a2L kc ((a0D kv r.es).getD (.g zero)))) else .bad
 | none => .bad
theorem c9K {kc v E : Nat} {zero kv : Value} {es : List (List Cel)} : c5q s d kc zero false kv (some ⟨v, E, 0, es⟩) = if E = kc ∧ m5 kc kv = true then .ok (s.put d (a2L kc ((a0D kv es).getD (.g zero)))) else .bad := by simp [c5q]
theorem c8d {kc v E : Nat} {zero kv : Value} {es : List (List Cel)} : c5q s d kc zero true kv (some ⟨v, E, 0, es⟩) = if E = kc ∧ m5 kc kv = true then .ok (s.put d (.tu [a2L kc ((a0D kv es).getD (.g zero)), bv (a0D kv es).isSome])) else .bad := by simp [c5q]
def c6o (s : AS) (d : Option Nat) (kc : Nat) (zero : Value) (ok : Bool) (zn : Nat) : Val → Val → SRes
 | .one (.mp k), .one (.g kv) => c5q s d kc zero ok kv (s.rw k)
 | .one (.fm kc' es), .one (.g kv) => if kc' = kc ∧ m5 kc kv = true then .ok (s.put d (if ok then .tu [a2L kc ((P7 kv es).getD (a0l zn zero)), bv (P7 kv es).isSome] else a2L kc ((P7 kv es).getD (a0l zn zero)))) else .bad
 | _, _ => .bad
theorem b6L {kc kc' zn : Nat} {zero kv : Value} {es : List (List Cel)} : c6o s d kc zero false zn (.one (.fm kc' es)) (.one (.g kv)) = if kc' = kc ∧ m5 kc kv = true then .ok (s.put d (a2L kc ((P7 kv es).getD (a0l zn zero)))) else .bad := (rfl)
theorem b7h {kc kc' zn : Nat} {zero kv : Value} {es : List (List Cel)} : c6o s d kc zero true zn (.one (.fm kc' es)) (.one (.g kv)) = if kc' = kc ∧ m5 kc kv = true then .ok (s.put d (.tu [a2L kc ((P7 kv es).getD (a0l zn zero)), bv (P7 kv es).isSome])) else .bad := (rfl)
theorem c5g {zn : Nat} {b : Bool} : a0l zn (.bool b) = .g (.bool b) := (rfl)
theorem c1m {zn : Nat} {k : IntKind} {n : Int} : a0l zn (.int k n) = .g (.int k n) := (rfl)
theorem c3z {zn : Nat} : a0l zn (.slice none 0 0) = if zn = 0 then .g (.slice none 0 0) else .sl false zn [] := (rfl)
theorem c1M {kc k zn : Nat} {zero kv : Value} {ok : Bool} : c6o s d kc zero ok zn (.one (.mp k)) (.one (.g kv)) = c5q s d kc zero ok kv (s.rw k) := (rfl)
theorem d2M {kc zn : Nat} {zero : Value} {ok : Bool} {x y : Opd} : c9 d (.mlk kc zero ok zn x y) s = c6o s d kc zero ok zn (s.ev x) (s.ev y) := by unfold c6o c5q; simp only [c9]; first | done | rfl
theorem b1l {n : Int} : m5 4 (.int .i64 n) = true := (rfl)
theorem b3b {b : ByteArray} : m5 0 (.string b) = true := (rfl)
def d3x {α β : Type} [BEq α] (k : α) : List (α × β) → Option β
 | [] => none
 | p :: l => if k == p.1 then some p.2 else d3x k l
def d2k {α β : Type} [BEq α] (k : α) (v : β) : List (α × β) → List (α × β)
 | [] => [(k, v)]
 | p :: l => if k == p.1 then (k, v) :: l else p :: d2k k v l
def mII (l : List (Int × Int)) : List (List Cel) := l.map fun p => [.g (.int .i64 p.1), .g (.int .i64 p.2)]
theorem b0x {q : IntKind} {n : Int} : ∀ {l : List (Int × Int)}, a0D (.int q n) (mII l) = (d3x n l).map fun v => .g (.int .i64 v)
 | [] => rfl
 | p :: l => by
  have ih := b0x (q := q) (n := n) (l := l)
  have e : a5X (.int q n) [.g (.int .i64 p.1), .g (.int .i64 p.2)] = (n == p.1) := rfl
  have e1 : mII (p :: l) = [.g (.int .i64 p.1), .g (.int .i64 p.2)] :: mII l := rfl
  rw [e1, a0D, d3x]
  all_goals grind
theorem b1u {n v : Int} : ∀ {l : List (Int × Int)}, a4e (.int .i64 n) (.g (.int .i64 v)) (mII l) = mII (d2k n v l)
 | [] => rfl
 | p :: l => by
  have ih := b1u (n := n) (v := v) (l := l)
  have e : a5X (.int .i64 n) [.g (.int .i64 p.1), .g (.int .i64 p.2)] = (n == p.1) := rfl
  have e1 : mII (p :: l) = [.g (.int .i64 p.1), .g (.int .i64 p.2)] :: mII l := rfl
  rw [e1, a4e, d2k]
  by_cases h : (n == p.1) = true
  ·rw [if_pos (e.trans h), if_pos h]; rfl
  ·rw [if_neg (fun h' => h (e.symm.trans h')), if_neg h, ih]; rfl
theorem c3N {q : IntKind} {o : Option Int} {z : Int} : (o.map fun v => Cel.g (.int q v)).getD (.g (.int q z)) = .g (.int q (o.getD z)) := by cases o <;> rfl
theorem b4z {q : IntKind} {o : Option Int} : (o.map fun v => Cel.g (.int q v)).isSome = o.isSome := by cases o <;> rfl
def mkR (s : AS) (k : Nat) (E : TypeId) (z bytes : Nat) (zero : List Value) (m m' : Int) : Option Row → SRes
 | none => if k < XK ∧ 0 < z ∧ zero.length = z then .need (0 ≤ m ∧ m' = m ∧ m * bytes ≤ 281474976710656 ∧ m ≤ 9223372036854775807) { s with tm := upd s.tm k (.one (.ow k 0)), rw := upd s.rw k (some ⟨0, E, z, List.replicate m.toNat (zero.map Cel.g)⟩) } else .bad
 | some _ => .bad
theorem b9c {k : Nat} {E : TypeId} {z bytes : Nat} {zero : List Value} {m m' : Int} : mkR s k E z bytes zero m m' none = if k < XK ∧ 0 < z ∧ zero.length = z then .need (0 ≤ m ∧ m' = m ∧ m * bytes ≤ 281474976710656 ∧ m ≤ 9223372036854775807) { s with tm := upd s.tm k (.one (.ow k 0)), rw := upd s.rw k (some ⟨0, E, z, List.replicate m.toNat (zero.map Cel.g)⟩) } else .bad := (rfl)
def d4l (s : AS) (k : Nat) (E : TypeId) (z bytes : Nat) (zero : List Value) : Val → Val → SRes
 | .one (.g (.int _ m)), .one (.g (.int _ m')) => mkR s k E z bytes zero m m' (s.rw k)
 | _, _ => .bad
theorem b7W {k : Nat} {E : TypeId} {z bytes : Nat} {zero : List Value} {kk kk' : IntKind} {m m' : Int} : d4l s k E z bytes zero (.one (.g (.int kk m))) (.one (.g (.int kk' m'))) = mkR s k E z bytes zero m m' (s.rw k) := (rfl)
theorem d2h {k : Nat} {E : TypeId} {z b : Nat} {zero : List Value} {x y : Opd} : c9 (some k) (.mkr E z b zero x y) s = d4l s k E z b zero (s.ev x) (s.ev y) := by
 simp only [c9]
 generalize s.ev x = u
 generalize s.ev y = w
 unfold d4l mkR
 grind
/-! views, what stays, what is handed back -/
theorem b7w {c : Cel} : s.view (.one c) = .one (s.viewC c) := (rfl)
theorem c1v {cs : List Cel} : s.view (.ag cs) = .ag (cs.map s.viewC) := (rfl)
theorem c3v {v : Value} : s.viewC (.g v) = .g v := (rfl)
def mpR : Option Row → Cel
 | some r => .fm r.E r.es
 | none => .any
theorem b6Z {v z : Nat} {E : TypeId} {es : List (List Cel)} : mpR (some ⟨v, E, z, es⟩) = .fm E es := (rfl)
theorem b5i {k : Nat} : s.viewC (.mp k) = mpR (s.rw k) := (rfl)
theorem b6r {kc : Nat} {es : List (List Cel)} : s.viewC (.fm kc es) = .fm kc es := (rfl)
theorem b1k {kc : Nat} {es : List (List Cel)} : s.viewC0 (.fm kc es) = .fm kc es := (rfl)
theorem b8N {kc : Nat} {es : List (List Cel)} : s.dataV (.fm kc es) = .fm kc es := (rfl)
theorem c1D {kc : Nat} {es : List (List Cel)} : s.finC (.fm kc es) = .fm kc es := (rfl)
theorem c5F {K : Kp} {kc : Nat} {es : List (List Cel)} : s.renC K (.fm kc es) = .fm kc es := (rfl)
theorem b2l {kc : Nat} {es : List (List Cel)} : C6 (.fm kc es) = true := (rfl)
theorem b8E {m : CAnn} {kc : Nat} {es : List (List Cel)} : s.passC m (.fm kc es) = .fm kc es := (rfl)
theorem b6s {m : CAnn} {kc : Nat} {es : List (List Cel)} : s.backC m (.fm kc es) = .fm kc es := (rfl)
theorem c8C {kc : Nat} {es : List (List Cel)} : Cel.dat (.fm kc es) = .fm kc es := (rfl)
theorem b3f : s.viewC .any = .any := (rfl)
theorem b7U {fr : Bool} {z : Nat} {es : List (List Cel)} : s.viewC (.sl fr z es) = .sl false z es := (rfl)
theorem b6a {cs : List Cel} : s.viewC (.ep cs) = .ep cs := (rfl)
theorem b8Y {f : FuncId} {cs : List Cel} : s.viewC (.fn f cs) = .fn f (cs.map s.viewC0) := (rfl)
def vwR (ver : Nat) : Option Row → Cel
 | some r => if ver = r.ver then .sl false r.z r.es else .any
 | none => .any
theorem b5k {ver v z : Nat} {E : TypeId} {es : List (List Cel)} : vwR ver (some ⟨v, E, z, es⟩) = if ver = v then .sl false z es else .any := (rfl)
def vwW (ver lo hi : Nat) : Option Row → Cel
 | some r => if ver = r.ver then .sl false r.z ((r.es.take hi).drop lo) else .any
 | none => .any
theorem b6t {v ver lo hi z : Nat} {E : TypeId} {es : List (List Cel)} : vwW ver lo hi (some ⟨v, E, z, es⟩) = if ver = v then .sl false z ((es.take hi).drop lo) else .any := (rfl)
theorem b6X {k ver lo hi : Nat} : s.viewC (.ws k ver lo hi) = vwW ver lo hi (s.rw k) := (rfl)
theorem b9s {k ver : Nat} : s.viewC (.ow k ver) = vwR ver (s.rw k) := (rfl)
def vwB (s : AS) (off : Nat) : Option (List Cel) → Cel
 | some cs => .ep ((cs.drop off).map s.dataV)
 | none => .any
theorem b7S {off : Nat} {cs : List Cel} : vwB s off (some cs) = .ep ((cs.drop off).map s.dataV) := (rfl)
theorem b6A {k off : Nat} : s.viewC (.bx k off) = vwB s off (s.bx k) := (rfl)
theorem b3A {k off : Nat} : s.viewC0 (.bx k off) = vwB s off (s.bx k) := (rfl)
theorem b0z {cs : List Cel} : s.viewC0 (.ep cs) = .ep cs := (rfl)
theorem b5T {v : Value} : s.viewC0 (.g v) = .g v := (rfl)
theorem c1U {v : Value} : s.dataV (.g v) = .g v := (rfl)
theorem b9m {fr : Bool} {z : Nat} {es : List (List Cel)} : s.dataV (.sl fr z es) = .sl false z es := (rfl)
theorem b6N {k ver : Nat} : s.dataV (.ow k ver) = vwR ver (s.rw k) := (rfl)
theorem b7T {k : Nat} : s.dataV (.mp k) = mpR (s.rw k) := (rfl)
theorem b2p : s.dataV .any = .any := (rfl)
theorem c1F {c : Cel} : s.fin (.one c) = .one (s.finC c) := (rfl)
theorem c9P {cs : List Cel} : s.fin (.ag cs) = .ag (cs.map s.finC) := (rfl)
theorem c8I {v : Value} : s.finC (.g v) = .g v := (rfl)
def mpF (k : Nat) : Option Row → Cel
 | some r => if k < XK then .fm r.E r.es else .any
 | none => .any
theorem b8L {k v z : Nat} {E : TypeId} {es : List (List Cel)} : mpF k (some ⟨v, E, z, es⟩) = if k < 1000000 then .fm E es else .any := (rfl)
theorem c5w {k : Nat} : s.finC (.mp k) = mpF k (s.rw k) := (rfl)
theorem b8I : s.finC .any = .any := (rfl)
theorem c2r {fr : Bool} {z : Nat} {es : List (List Cel)} : s.finC (.sl fr z es) = .sl fr z es := (rfl)
theorem c2E {cs : List Cel} : s.finC (.ep cs) = .ep cs := (rfl)
def fnR (k ver : Nat) : Option Row → Cel
 | some r => if ver = r.ver then (if k < XK then .sl (frE r.es) r.z r.es else .any) else .any
 | none => .any
theorem a8L {k ver v z : Nat} {E : TypeId} {es : List (List Cel)} : fnR k ver (some ⟨v, E, z, es⟩) = if ver = v then (if k < XK then .sl (frE es) z es else .any) else .any := (rfl)
theorem c3t {k ver : Nat} : s.finC (.ow k ver) = fnR k ver (s.rw k) := (rfl)
theorem d2D : XK = 1000000 := (rfl)
def a5g (s : AS) (K : Kp) : List Nat → List (Nat × Val)
 | [] => []
 | t :: l => (t, s.ren K (s.tm t)) :: a5g s K l
theorem b1I {K : Kp} : a5g s K [] = [] := (rfl)
theorem a9T {K : Kp} {t : Nat} {l : List Nat} : a5g s K (t :: l) = (t, s.ren K (s.tm t)) :: a5g s K l := (rfl)
def keepB (s : AS) (K : Kp) : List Nat → List (Nat × List Cel)
 | [] => []
 | k :: l => kpB s K k (s.bx k) (keepB s K l)
where kpB (s : AS) (K : Kp) (k : Nat) : Option (List Cel) → List (Nat × List Cel) → List (Nat × List Cel)
 | some cs, l => (k, cs.map (s.renC K)) :: l
 | none, l => l
theorem b2q {K : Kp} : keepB s K [] = [] := (rfl)
theorem a9E {K : Kp} {k : Nat} {l : List Nat} : keepB s K (k :: l) = keepB.kpB s K k (s.bx k) (keepB s K l) := (rfl)
theorem b6y {K : Kp} {k : Nat} {cs : List Cel} {l : List (Nat × List Cel)} : keepB.kpB s K k (some cs) l = (k, cs.map (s.renC K)) :: l := (rfl)
theorem b7i {K : Kp} {k : Nat} {l : List (Nat × List Cel)} : keepB.kpB s K k none l = l := (rfl)
def keepR (s : AS) (K : Kp) : List Nat → List (Nat × Row)
 | [] => []
 | k :: l => kpR K k (s.rw k) (keepR s K l)
where kpR (K : Kp) (k : Nat) : Option Row → List (Nat × Row) → List (Nat × Row)
 | some r, l => (k, { r with ver := K.q k r.ver }) :: l
 | none, l => l
theorem b1D {K : Kp} : keepR s K [] = [] := (rfl)
theorem a9x {K : Kp} {k : Nat} {l : List Nat} : keepR s K (k :: l) = keepR.kpR K k (s.rw k) (keepR s K l) := (rfl)
theorem b5y {ts bs rs : List Nat} {q : Nat → Nat → Nat} {k v z : Nat} {E : TypeId} {es : List (List Cel)} {l : List (Nat × Row)} : keepR.kpR ⟨ts, bs, rs, q⟩ k (some ⟨v, E, z, es⟩) l = (k, ⟨q k v, E, z, es⟩) :: l := (rfl)
theorem b6v {K : Kp} {k : Nat} {l : List (Nat × Row)} : keepR.kpR K k none l = l := (rfl)
theorem b5b {K : Kp} : s.keepK K = ⟨m9 (a5g s K K.ts), f9 (keepB s K K.bs), f9 (keepR s K K.rs)⟩ := by
 have h1 : ∀ l, a5g s K l = l.map fun t => (t, s.ren K (s.tm t)) := by
  intro l; induction l with
  | nil => rfl
  | cons t l ih => simp only [a5g, ih, List.map_cons]
 have h2 : ∀ l, keepB s K l = l.filterMap fun k => (s.bx k).map fun cs => (k, cs.map (s.renC K)) := by
  intro l; induction l with
  | nil => rfl
  | cons t l ih => simp only [keepB, ih, List.filterMap_cons]; cases s.bx t <;> rfl
 have h3 : ∀ l, keepR s K l = l.filterMap fun k => (s.rw k).map fun r => (k, { r with ver := K.q k r.ver }) := by
  intro l; induction l with
  | nil => rfl
  | cons t l ih => simp only [keepR, ih, List.filterMap_cons]; cases s.rw t <;> rfl
 rw [h1, h2, h3]; rfl
theorem b3i {ts bs rs : List Nat} : s.keep (some ⟨ts, bs, rs⟩) = ⟨m9 (a5g s ⟨ts, bs, rs, kv⟩ ts), f9 (keepB s ⟨ts, bs, rs, kv⟩ bs), f9 (keepR s ⟨ts, bs, rs, kv⟩ rs)⟩ := b5b (K := ⟨ts, bs, rs, kv⟩)
theorem d3D {k v : Nat} (h : k < 1000000) : kv k v = 0 := by unfold kv XK; rw [if_pos h]
theorem c6l {k : Nat} (h : 1000000 ≤ k) : kv k 0 = 0 := by unfold kv; split <;> rfl
theorem d0Q {k v : Nat} (h : 1000000 ≤ k) (h' : 1 ≤ v) : kv k v = 1 := by unfold kv XK; rw [if_neg (by omega)]; omega
theorem d3Z {k v : Nat} : kz k v = 0 := (rfl)
theorem c3u {ts bs rs : List Nat} {q : Nat → Nat → Nat} : Keep.at ⟨ts, bs, rs⟩ q = ⟨ts, bs, rs, q⟩ := (rfl)
theorem b4d : s.keep none = s := (rfl)
theorem c2g {K : Kp} {c : Cel} : s.ren K (.one c) = .one (s.renC K c) := (rfl)
theorem c6s {K : Kp} {cs : List Cel} : s.ren K (.ag cs) = .ag (cs.map (s.renC K)) := (rfl)
theorem c7U {K : Kp} {vs : List Val} : s.ren K (.tu vs) = .any := (rfl)
theorem c2h {K : Kp} : s.ren K .any = .any := (rfl)
theorem c6p {K : Kp} {v : Value} : s.renC K (.g v) = .g v := (rfl)
theorem c1Q {K : Kp} {fr : Bool} {z : Nat} {es : List (List Cel)} : s.renC K (.sl fr z es) = .sl fr z es := (rfl)
theorem c3n {K : Kp} {cs : List Cel} : s.renC K (.ep cs) = .ep cs := (rfl)
theorem c5c {ts bs rs : List Nat} {q : Nat → Nat → Nat} {k : Nat} : s.renC ⟨ts, bs, rs, q⟩ (.mp k) = if k ∈ rs then .mp k else mpF k (s.rw k) := (rfl)
theorem b5K {K : Kp} : s.renC K .any = .any := (rfl)
theorem c1b {ts bs rs : List Nat} {q : Nat → Nat → Nat} {k off : Nat} : s.renC ⟨ts, bs, rs, q⟩ (.bx k off) = if k ∈ bs then .bx k off else .any := (rfl)
def rnR (c c' : Cel) (ver : Nat) : Option Row → Cel
 | some r => if ver = r.ver then c else c'
 | none => c'
theorem b6C {c c' : Cel} {ver v z : Nat} {E : TypeId} {es : List (List Cel)} : rnR c c' ver (some ⟨v, E, z, es⟩) = if ver = v then c else c' := (rfl)
def rnO (k k' ver : Nat) (b : Bool) : Option Row → Cel
 | some r => if ver = r.ver then (if b then .ow k k' else if k < XK then .sl (frE r.es) r.z r.es else .any) else .any
 | none => .any
theorem b5v {k k' ver v z : Nat} {b : Bool} {E : TypeId} {es : List (List Cel)} : rnO k k' ver b (some ⟨v, E, z, es⟩) = if ver = v then (if b then .ow k k' else if k < XK then .sl (frE es) z es else .any) else .any := (rfl)
theorem b2S {ts bs rs : List Nat} {q : Nat → Nat → Nat} {k ver : Nat} : s.renC ⟨ts, bs, rs, q⟩ (.ow k ver) = rnO k (q k ver) ver (decide (k ∈ rs)) (s.rw k) := by
 unfold rnO; simp only [AS.renC, decide_eq_true_eq]; cases s.rw k <;> rfl
theorem c0Y {ts bs rs : List Nat} {q : Nat → Nat → Nat} {k ver lo : Nat} : s.renC ⟨ts, bs, rs, q⟩ (.os k ver lo) = if k ∈ rs then rnR (.os k (q k ver) lo) .any ver (s.rw k) else .any := (rfl)
theorem c0T {ts bs rs : List Nat} {q : Nat → Nat → Nat} {k ver i off : Nat} : s.renC ⟨ts, bs, rs, q⟩ (.op k ver i off) = if k ∈ rs then rnR (.op k (q k ver) i off) .any ver (s.rw k) else .any := (rfl)
def b5a (bs : List Nat) : Cel → Bool
 | .bx k _ => k ∈ bs
 | .g _ => true
 | .ep _ => true
 | _ => false
theorem c2f {ts bs rs : List Nat} {q : Nat → Nat → Nat} {f : FuncId} {caps : List Cel} : s.renC ⟨ts, bs, rs, q⟩ (.fn f caps) = if caps.all (b5a bs) then .fn f caps else .any := by
 simp only [AS.renC]; congr 3
theorem b7M {bs : List Nat} {k off : Nat} : b5a bs (.bx k off) = decide (k ∈ bs) := (rfl)
theorem b6h {bs : List Nat} {cs : List Cel} : b5a bs (.ep cs) = true := (rfl)
theorem c1V {bs : List Nat} {v : Value} : b5a bs (.g v) = true := (rfl)
def d1V (s : AS) (k off rk : Nat) (E : TypeId) (z : Nat) (T : AS → Prop) : Option (List Cel) → Option Row → Prop
 | some cs, none => (cs[off]?.map c4x = some true ∧ rk < XK) ∧ 0 < z ∧ T { s with bx := upd s.bx k (some (wr cs off [.ow rk 0])), rw := upd s.rw rk (some ⟨0, E, z, []⟩) }
 | _, _ => False
theorem c4r {j off rk : Nat} {E : TypeId} {z : Nat} {k : List KI} : ex P (.ownb j off rk E z) k Q s = d1V s j off rk E z (ex P .skip k Q) (s.bx j) (s.rw rk) := by
 unfold d1V; rfl
theorem b8G {j off rk : Nat} {E : TypeId} {z : Nat} {cs : List Cel} {k : List KI} : d1V s j off rk E z (ex P .skip k Q) (some cs) none = ((cs[off]?.map c4x = some true ∧ rk < 1000000) ∧ 0 < z ∧ ex P .skip k Q { s with bx := upd s.bx j (some (wr cs off [.ow rk 0])), rw := upd s.rw rk (some ⟨0, E, z, []⟩) }) := (rfl)
theorem c1j : c4x (.g (.slice none 0 0)) = true := (rfl)
def d1D (s : AS) (k : Nat) (E : TypeId) (z : Nat) (T : AS → Prop) : Val → Option Row → Prop
 | .one (.g (.slice none 0 c)), none => c = 0 ∧ 0 < z ∧ T { s with tm := upd s.tm k (.one (.ow k 0)), rw := upd s.rw k (some ⟨0, E, z, []⟩) }
 | _, _ => False
theorem c1N {j : Nat} {E : TypeId} {z : Nat} {k : List KI} : ex P (.own j E z) k Q s = d1D s j E z (ex P .skip k Q) (s.tm j) (s.rw j) := by
 unfold d1D; rfl
theorem b5P {j : Nat} {E : TypeId} {z : Nat} {k : List KI} : d1D s j E z (ex P .skip k Q) (.one (.g (.slice none 0 0))) none = (0 < z ∧ ex P .skip k Q { s with tm := upd s.tm j (.one (.ow j 0)), rw := upd s.rw j (some ⟨0, E, z, []⟩) }) := by
 simp [d1D]
theorem b0l {c : Cel} : Z4 (.one c) = C6 c := (rfl)
theorem b4g {cs : List Cel} : Z4 (.ag cs) = cs.all C6 := (rfl)
theorem b7u {v : Value} : C6 (.g v) = true := (rfl)
theorem b3y {fr : Bool} {z : Nat} {es : List (List Cel)} : C6 (.sl fr z es) = true := (rfl)
theorem b3q {cs : List Cel} : C6 (.ep cs) = true := (rfl)
theorem b1C {k : Nat} : C6 (.mp k) = false := (rfl)
theorem a9a : C6 .any = true := (rfl)
theorem b1M {k off : Nat} : C6 (.bx k off) = false := (rfl)
theorem b1n {k ver : Nat} : C6 (.ow k ver) = false := (rfl)
theorem b3D {k ver i off : Nat} : C6 (.op k ver i off) = false := (rfl)
theorem a8Z {f : FuncId} : C6 (.fn f []) = true := (rfl)
/-! calls that are handed boxes and rows -/
def hpB (s : AS) (m : CAnn) : List Nat → List (Nat × List Cel)
 | [] => []
 | k :: l => hpB1 k (s.bx k) (hpB s m l)
where hpB1 (k : Nat) : Option (List Cel) → List (Nat × List Cel) → List (Nat × List Cel)
 | some cs, l => (k, cs.map (s.passC m)) :: l
 | none, l => l
theorem c4W {m : CAnn} : hpB s m [] = [] := (rfl)
theorem b5C {m : CAnn} {k : Nat} {l : List Nat} : hpB s m (k :: l) = hpB.hpB1 s m k (s.bx k) (hpB s m l) := (rfl)
theorem b1j {m : CAnn} {k : Nat} {cs : List Cel} {l : List (Nat × List Cel)} : hpB.hpB1 s m k (some cs) l = (k, cs.map (s.passC m)) :: l := (rfl)
def hpR (s : AS) : List Nat → List (Nat × Row)
 | [] => []
 | k :: l => hpR1 k (s.rw k) (hpR s l)
where hpR1 (k : Nat) : Option Row → List (Nat × Row) → List (Nat × Row)
 | some r, l => (k, { r with ver := 0, es := H4 r.es }) :: l
 | none, l => l
theorem c3r : hpR s [] = [] := (rfl)
theorem b5V {k : Nat} {l : List Nat} : hpR s (k :: l) = hpR.hpR1 k (s.rw k) (hpR s l) := (rfl)
theorem b0S {k v z : Nat} {E : TypeId} {es : List (List Cel)} {l : List (Nat × Row)} : hpR.hpR1 k (some ⟨v, E, z, es⟩) l = (k, ⟨0, E, z, H4 es⟩) :: l := (rfl)
theorem d3W {a b c e f : List Nat} : s.hp ⟨a, b, c, e, f⟩ = ⟨hpB s ⟨a, b, c, e, f⟩ a, hpR s b⟩ := by
 have h1 : ∀ (m : CAnn) l, hpB s m l = l.filterMap fun k => (s.bx k).map fun cs => (k, cs.map (s.passC m)) := by
  intro m l; induction l with
  | nil => rfl
  | cons t l ih => simp only [hpB, ih, List.filterMap_cons]; cases s.bx t <;> rfl
 have h2 : ∀ l, hpR s l = l.filterMap fun k => (s.rw k).map fun r => (k, { r with ver := 0, es := H4 r.es }) := by
  intro l; induction l with
  | nil => rfl
  | cons t l ih => simp only [hpR, ih, List.filterMap_cons]; cases s.rw t <;> rfl
 rw [h1, h2]; rfl
theorem b2Q {m : CAnn} {c : Cel} : s.passV m (.one c) = .one (s.passC m c) := (rfl)
theorem b7m {m : CAnn} {cs : List Cel} : s.passV m (.ag cs) = .ag (cs.map (s.passC m)) := (rfl)
theorem b2c {m : CAnn} : s.passV m .any = .any := (rfl)
theorem c3c {m : CAnn} {v : Value} : s.passC m (.g v) = .g v := (rfl)
theorem b5t {m : CAnn} {fr : Bool} {z : Nat} {es : List (List Cel)} : s.passC m (.sl fr z es) = .sl false z es := (rfl)
theorem b7R {m : CAnn} {cs : List Cel} : s.passC m (.ep cs) = .ep cs := (rfl)
theorem b7n {a b c e f : List Nat} {k : Nat} : s.passC ⟨a, b, c, e, f⟩ (.mp k) = if k ∈ b then .mp k else .any := (rfl)
theorem b4u {m : CAnn} : s.passC m .any = .any := (rfl)
theorem b8x {a b c e f : List Nat} {k off : Nat} : s.passC ⟨a, b, c, e, f⟩ (.bx k off) = if k ∈ a then .bx k off else .any := (rfl)
def psR (k ver : Nat) (t : Bool) (c : Cel) : Option Row → Cel
 | some r => if ver = r.ver ∧ t = true then c else .any
 | none => .any
theorem b7l {k ver v z : Nat} {t : Bool} {c : Cel} {E : TypeId} {es : List (List Cel)} : psR k ver t c (some ⟨v, E, z, es⟩) = if ver = v ∧ t = true then c else .any := (rfl)
theorem b7X {a b c e f : List Nat} {k ver : Nat} : s.passC ⟨a, b, c, e, f⟩ (.ow k ver) = psR k ver (decide (k ∈ b)) (.ow k 0) (s.rw k) := by
 simp only [AS.passC, AS.passC0]; unfold psR; cases s.rw k <;> simp
theorem b8j {a b c e f : List Nat} {k ver i off : Nat} : s.passC ⟨a, b, c, e, f⟩ (.op k ver i off) = psR k ver (decide (k ∈ b)) (.op k 0 i off) (s.rw k) := by
 simp only [AS.passC, AS.passC0]; unfold psR; cases s.rw k <;> simp
theorem b8B {m : CAnn} {f : FuncId} {caps : List Cel} : s.passC m (.fn f caps) = .fn f (caps.map (s.passC0 m)) := (rfl)
theorem b5x {m : CAnn} {v : Value} : s.passC0 m (.g v) = .g v := (rfl)
theorem b1S {a b c e f : List Nat} {k off : Nat} : s.passC0 ⟨a, b, c, e, f⟩ (.bx k off) = if k ∈ a then .bx k off else .any := (rfl)
def nvR (t : Bool) : Option Row → Nat
 | some r => if t then r.ver else r.ver + 1
 | none => 0
theorem d1S {a b c e f : List Nat} {k : Nat} : s.nv ⟨a, b, c, e, f⟩ k = nvR (decide (k ∈ f)) (s.rw k) := by unfold nvR; simp only [AS.nv, decide_eq_true_eq]; cases s.rw k <;> rfl
theorem b6d {t : Bool} {v z : Nat} {E : TypeId} {es : List (List Cel)} : nvR t (some ⟨v, E, z, es⟩) = if t then v else v + 1 := (rfl)
theorem b5l {t : Bool} : nvR t none = 0 := (rfl)
theorem b8U {m : CAnn} {bs : List (Nat × List Cel)} {rs : List (Nat × Row)} : s.after m ⟨bs, rs⟩ = ⟨s.tm, a5b s m bs s.bx, a5E s m rs s.rw⟩ := (rfl)
theorem b6U {m : CAnn} {b : Nat → Option (List Cel)} : a5b s m [] b = b := (rfl)
theorem b4c {m : CAnn} {k : Nat} {cs : List Cel} {l : List (Nat × List Cel)} {b : Nat → Option (List Cel)} : a5b s m ((k, cs) :: l) b = upd (a5b s m l b) k (some (cs.map (s.backC m))) := (rfl)
theorem b7p {m : CAnn} {b : Nat → Option Row} : a5E s m [] b = b := (rfl)
theorem b3U {m : CAnn} {k v z : Nat} {E : TypeId} {es : List (List Cel)} {l : List (Nat × Row)} {b : Nat → Option Row} : a5E s m ((k, ⟨v, E, z, es⟩) :: l) b = upd (a5E s m l b) k (some ⟨s.nv m k, E, z, es⟩) := (rfl)
theorem c2v {m : CAnn} {v : Value} : s.backC m (.g v) = .g v := (rfl)
theorem b7v {m : CAnn} {fr : Bool} {z : Nat} {es : List (List Cel)} : s.backC m (.sl fr z es) = .sl fr z es := (rfl)
theorem b7q {m : CAnn} {cs : List Cel} : s.backC m (.ep cs) = .ep cs := (rfl)
theorem b6p {m : CAnn} {k : Nat} : s.backC m (.mp k) = .mp k := (rfl)
theorem b0N {m : CAnn} : s.backC m .any = .any := (rfl)
theorem b8o {m : CAnn} {k off : Nat} : s.backC m (.bx k off) = .bx k off := (rfl)
theorem b8T {m : CAnn} {k v : Nat} : s.backC m (.ow k v) = .ow k (s.nv m k) := (rfl)
theorem b5B {m : CAnn} {k v i off : Nat} : s.backC m (.op k v i off) = .op k (s.nv m k) i off := (rfl)
theorem b9p {m : CAnn} {f : FuncId} {caps : List Cel} : s.backC m (.fn f caps) = .any := (rfl)
theorem b4e {m : CAnn} {c : Cel} : s.backV m (.one c) = .one (s.backC m c) := (rfl)
theorem b7H {m : CAnn} {cs : List Cel} : s.backV m (.ag cs) = .ag (cs.map (s.backC m)) := (rfl)
theorem b2R {m : CAnn} : s.backV m .any = .any := (rfl)
def a0s (s : AS) (m : CAnn) : List Val → List Val
 | [] => []
 | .one c :: l => .one (s.backC m c) :: a0s s m l
 | .ag cs :: l => .ag (cs.map (s.backC m)) :: a0s s m l
 | _ :: l => .any :: a0s s m l
theorem b4q {m : CAnn} : a0s s m [] = [] := (rfl)
theorem b0W {m : CAnn} {c : Cel} {l : List Val} : a0s s m (.one c :: l) = .one (s.backC m c) :: a0s s m l := (rfl)
theorem b8b {m : CAnn} {cs : List Cel} {l : List Val} : a0s s m (.ag cs :: l) = .ag (cs.map (s.backC m)) :: a0s s m l := (rfl)
theorem b1G {m : CAnn} {l : List Val} : a0s s m (.any :: l) = .any :: a0s s m l := (rfl)
theorem b4Z {m : CAnn} {vs : List Val} : s.backV m (.tu vs) = .tu (a0s s m vs) := by
 have h : ∀ l : List Val, a0s s m l = l.map fun v => match v with | .one c => .one (s.backC m c) | .ag cs => .ag (cs.map (s.backC m)) | _ => .any := by
  intro l; induction l with
  | nil => rfl
  | cons v l ih => cases v <;> simp only [a0s, List.map_cons, ih]
 rw [h]; rfl
/-! results -/
def d1e (R : List Cel → Val → Prop) : Option Val → Prop
 | some r => R [] r
 | none => False
theorem b3s {rs : List RV} {R : List Cel → Val → Prop} : M5 none rs R .ret s = d1e R (s.res rs) := by unfold d1e; simp only [M5]; cases s.res rs <;> rfl
theorem b0M {rs : List RV} {R : List Cel → Val → Prop} : M5 none rs R .nrm s = d1e R (s.res rs) := by unfold d1e; simp only [M5]; cases s.res rs <;> rfl
theorem b2O {R : List Cel → Val → Prop} {r : Val} : d1e R (some r) = R [] r := (rfl)
def c6N (s : AS) (R : List Cel → Val → Prop) : Option Val → Option (List Cel) → Prop
 | some r, some cs => R (cs.map s.finC) r
 | _, _ => False
theorem a9l {cs : List Cel} {rs : List RV} {R : List Cel → Val → Prop} : M5 (some cs) rs R .ret s = c6N s R (s.res rs) (s.bx 0) := by
 unfold c6N; simp only [M5]; cases s.res rs <;> cases s.bx 0 <;> rfl
theorem a9b {cs : List Cel} {rs : List RV} {R : List Cel → Val → Prop} : M5 (some cs) rs R .nrm s = c6N s R (s.res rs) (s.bx 0) := by
 unfold c6N; simp only [M5]; cases s.res rs <;> cases s.bx 0 <;> rfl
theorem b3G {R : List Cel → Val → Prop} {r : Val} {cs : List Cel} : c6N s R (some r) (some cs) = R (cs.map s.finC) r := (rfl)
def rvL (s : AS) : List RV → Option (List Val)
 | [] => some []
 | x :: l => consV (s.rv x) (rvL s l)
where consV : Option Val → Option (List Val) → Option (List Val)
 | some v, some vs => some (v :: vs)
 | _, _ => none
theorem c1f : rvL s [] = some [] := (rfl)
theorem b6R {x : RV} {l : List RV} : rvL s (x :: l) = rvL.consV (s.rv x) (rvL s l) := (rfl)
theorem a9U {v : Val} {vs : List Val} : rvL.consV (some v) (some vs) = some (v :: vs) := (rfl)
def c6X : Option (List Val) → Option Val
 | some [v] => some v
 | some vs => some (.tu vs)
 | none => none
theorem d1r {rs : List RV} : s.res rs = c6X (rvL s rs) := by
 have h : ∀ rs : List RV, rvL s rs = rs.mapM s.rv := by
  intro rs; induction rs with
  | nil => rfl
  | cons r rs ih =>
   simp only [rvL, ih, List.mapM_cons]
   cases s.rv r <;> cases rs.mapM s.rv <;> rfl
 rw [h]; rfl
theorem b8e {v : Val} : c6X (some [v]) = some v := (rfl)
theorem b6J : c6X (some []) = some (.tu []) := (rfl)
theorem b0Y {v v' : Val} {vs : List Val} : c6X (some (v :: v' :: vs)) = some (.tu (v :: v' :: vs)) := (rfl)
theorem d6q {n : Nat} : s.rv (.t n) = some (s.fin (s.tm n)) := (rfl)
def rvB (s : AS) (agg : Bool) (sz off : Nat) : Option (List Cel) → Option Val
 | some cs => if agg then (if sz ≤ (cs.drop off).length then some (s.fin (.ag ((cs.drop off).take sz))) else none) else (match cs.drop off with | c :: _ => some (s.fin (.one c)) | [] => none)
 | none => none
theorem b4I {sz off : Nat} {cs : List Cel} : rvB s true sz off (some cs) = if sz ≤ (cs.drop off).length then some (s.fin (.ag ((cs.drop off).take sz))) else none := (rfl)
def rvS (s : AS) (agg : Bool) (sz : Nat) : Val → Option Val
 | .one (.bx k off) => rvB s agg sz off (s.bx k)
 | _ => none
theorem c8x {agg : Bool} {sz k off : Nat} : rvS s agg sz (.one (.bx k off)) = rvB s agg sz off (s.bx k) := (rfl)
theorem c3q {n : Nat} {agg : Bool} {sz : Nat} : s.rv (.cell n agg sz) = rvS s agg sz (s.tm n) := by unfold rvS rvB; simp only [AS.rv]; rfl
def c8H (H : Hp) (s : AS) (K : Keep) (R : Hp → Val → Prop) : Option Val → Prop
 | some r => zOk H.rs (s.outH K).rs = true ∧ R (s.outH K) r
 | none => False
theorem b3l {H : Hp} {K : Keep} {rs : List RV} {R : Hp → Val → Prop} : a2w H K rs R .ret s = c8H H s K R (s.resK K rs) := by unfold c8H; simp only [a2w]; cases s.resK K rs <;> rfl
theorem b3V {H : Hp} {K : Keep} {rs : List RV} {R : Hp → Val → Prop} : a2w H K rs R .nrm s = c8H H s K R (s.resK K rs) := by unfold c8H; simp only [a2w]; cases s.resK K rs <;> rfl
theorem b3H {bs : List (Nat × List Cel)} {ls : List (Nat × Row)} {K : Keep} {R : Hp → Val → Prop} {r : Val} : c8H ⟨bs, ls⟩ s K R (some r) = (zOk ls (s.outH K).rs = true ∧ R (s.outH K) r) := (rfl)
theorem c4E {ts bs rs : List Nat} : s.outH ⟨ts, bs, rs⟩ = ⟨keepB s ⟨ts, bs, rs, kz⟩ bs, keepR s ⟨ts, bs, rs, kz⟩ rs⟩ := by
 have h2 : ∀ (K : Kp) l, keepB s K l = l.filterMap fun k => (s.bx k).map fun cs => (k, cs.map (s.renC K)) := by
  intro K l; induction l with
  | nil => rfl
  | cons t l ih => simp only [keepB, ih, List.filterMap_cons]; cases s.bx t <;> rfl
 have h3 : ∀ (K : Kp) l, keepR s K l = l.filterMap fun k => (s.rw k).map fun r => (k, { r with ver := K.q k r.ver }) := by
  intro K l; induction l with
  | nil => rfl
  | cons t l ih => simp only [keepR, ih, List.filterMap_cons]; cases s.rw t <;> rfl
 rw [h2, h3]; rfl
theorem a9L {S : List Nat} {H : Hp} {K : Keep} {rs : List RV} {R : Hp → Val → Prop} : a4k S H K rs R .ret s = (c0e S s = true ∧ a2w H K rs R .ret s) := (rfl)
theorem a8Y {S : List Nat} {H : Hp} {K : Keep} {rs : List RV} {R : Hp → Val → Prop} : a4k S H K rs R .nrm s = (c0e S s = true ∧ a2w H K rs R .nrm s) := (rfl)
def stV : Option Row → Bool
 | some r => r.ver == 0
 | none => true
theorem b5Q {v z : Nat} {E : TypeId} {es : List (List Cel)} : stV (some ⟨v, E, z, es⟩) = decide (v = 0) := (rfl)
theorem b5R : c0e [] s = true := (rfl)
theorem b3z {k : Nat} {l : List Nat} : c0e (k :: l) s = (decide (1000000 ≤ k) && stV (s.rw k) && c0e l s) := by
 unfold stV; simp only [c0e, List.all_cons, XK]; cases s.rw k <;> rfl
def zo1 (z : Nat) : Option Row → Bool
 | some r => r.z == z
 | none => true
theorem b8l {z v z' : Nat} {E : TypeId} {es : List (List Cel)} : zo1 z (some ⟨v, E, z', es⟩) = decide (z' = z) := (rfl)
theorem b6Y {z : Nat} : zo1 z none = true := (rfl)
theorem c4p {l : List (Nat × Row)} : zOk [] l = true := (rfl)
theorem b7e {k v z : Nat} {E : TypeId} {es : List (List Cel)} {l l' : List (Nat × Row)} : zOk ((k, ⟨v, E, z, es⟩) :: l) l' = (zo1 z (f9 l' k) && zOk l l') := by
 unfold zo1; simp only [zOk]; generalize f9 l' k = x; cases x <;> rfl
def c4o (s : AS) (K : Keep) : List RV → Option (List Val)
 | [] => some []
 | x :: l => rvL.consV (s.rvK K x) (c4o s K l)
theorem b7a {K : Keep} : c4o s K [] = some [] := (rfl)
theorem b3X {K : Keep} {x : RV} {l : List RV} : c4o s K (x :: l) = rvL.consV (s.rvK K x) (c4o s K l) := (rfl)
theorem c1a {K : Keep} {rs : List RV} : s.resK K rs = c6X (c4o s K rs) := by
 have h : ∀ rs : List RV, c4o s K rs = rs.mapM (s.rvK K) := by
  intro rs; induction rs with
  | nil => rfl
  | cons r rs ih =>
   simp only [c4o, ih, List.mapM_cons]
   cases s.rvK K r <;> cases rs.mapM (s.rvK K) <;> rfl
 rw [h]; rfl
theorem d4p {K : Keep} {n : Nat} : s.rvK K (.t n) = some (s.ren (K.at kz) (s.tm n)) := (rfl)
def rvKB (s : AS) (K : Kp) (agg : Bool) (sz off : Nat) : Option (List Cel) → Option Val
 | some cs => if agg then (if sz ≤ (cs.drop off).length then some (s.ren K (.ag ((cs.drop off).take sz))) else none) else rvKC (cs.drop off)
 | none => none
where rvKC : List Cel → Option Val
 | c :: _ => some (s.ren K (.one c))
 | [] => none
theorem b4a {K : Kp} {c : Cel} {cs : List Cel} : rvKB.rvKC s K (c :: cs) = some (s.ren K (.one c)) := (rfl)
theorem b2J {K : Kp} {sz off : Nat} {cs : List Cel} : rvKB s K true sz off (some cs) = if sz ≤ (cs.drop off).length then some (s.ren K (.ag ((cs.drop off).take sz))) else none := by simp [rvKB]
theorem a9V {K : Kp} {sz off : Nat} {cs : List Cel} : rvKB s K false sz off (some cs) = rvKB.rvKC s K (cs.drop off) := by simp [rvKB]
def d4c (s : AS) (K : Kp) (agg : Bool) (sz : Nat) : Val → Option Val
 | .one (.bx k off) => rvKB s K agg sz off (s.bx k)
 | _ => none
theorem c1J {K : Kp} {agg : Bool} {sz k off : Nat} : d4c s K agg sz (.one (.bx k off)) = rvKB s K agg sz off (s.bx k) := (rfl)
theorem b7L {K : Keep} {n : Nat} {agg : Bool} {sz : Nat} : s.rvK K (.cell n agg sz) = d4c s (K.at kz) agg sz (s.tm n) := by
 unfold d4c rvKB rvKB.rvKC; simp only [AS.rvK]; rfl
theorem b9l {bs : List (Nat × List Cel)} {rs : List (Nat × Row)} {args : List Val} : a3w ⟨bs, rs⟩ args = ⟨m9 (P5 0 args), f9 bs, f9 rs⟩ := (rfl)
theorem b1J {k : Nat} : P5 k [] = [] := (rfl)
theorem a9J {k : Nat} {v : Val} {l : List Val} : P5 k (v :: l) = (k, v) :: P5 (k + 1) l := (rfl)
theorem a6F {args : List Val} : G5 none args = ⟨m9 (P5 0 args), f9 [], f9 []⟩ := (rfl)
theorem a6K {cs : List Cel} {args : List Val} : G5 (some cs) args = ⟨m9 ((0, .one (.bx 0 0)) :: P5 1 args), f9 [(0, cs)], f9 []⟩ := (rfl)
def chE (s : AS) (d : Option Nat) : Val → SRes
 | .one (.mp _) => .bad
 | .one (.os _ _ _) => .bad
 | .one (.ws _ _ _ _) => .bad
 | .one (.bx _ _) => .bad
 | .one (.ow _ _) => .bad
 | .one (.op _ _ _ _) => .bad
 | _ => .ok (s.put d .any)
def chK (s : AS) (d : Option Nat) (k : Nat) : Val → SRes
 | .one (.bx j _) => if j = k then .ok (s.put d .any) else .bad
 | .one (.op _ _ _ _) => if k = RWK then .ok (s.put d .any) else .bad
 | _ => .bad
theorem d0T {d : Option Nat} {x : Opd} : c9 d (.chk x none) s = chE s d (s.ev x) := by
 rw [c9]; rfl
theorem d1a {d : Option Nat} {x : Opd} {k : Nat} : c9 d (.chk x (some k)) s = chK s d k (s.ev x) := by
 rw [c9]; rfl
theorem c9D {d : Option Nat} {cs : List Cel} : chE s d (.one (.ep cs)) = .ok (s.put d .any) := (rfl)
theorem d0h {d : Option Nat} {kc : Nat} {es : List (List Cel)} : chE s d (.one (.fm kc es)) = .ok (s.put d .any) := (rfl)
theorem d0Z {d : Option Nat} {fr : Bool} {z : Nat} {es : List (List Cel)} : chE s d (.one (.sl fr z es)) = .ok (s.put d .any) := (rfl)
theorem d2z {d : Option Nat} {v : Value} : chE s d (.one (.g v)) = .ok (s.put d .any) := (rfl)
theorem d0K {d : Option Nat} {a b c e : Nat} : chK s d 999999999 (.one (.op a b c e)) = .ok (s.put d .any) := (rfl)
theorem c8m {d : Option Nat} {k j off : Nat} : chK s d k (.one (.bx j off)) = if j = k then .ok (s.put d .any) else .bad := (rfl)
theorem d2H {v : Value} : (Cel.g v).isD = true := (rfl)
theorem c9z {fr : Bool} {z : Nat} {es : List (List Cel)} : (Cel.sl fr z es).isD = true := (rfl)
theorem c3j : Cel.any.isD = true := (rfl)
theorem a9A {c : Cel} : Q5 (.one c) = p9 c := (rfl)
theorem b0U {cs : List Cel} : Q5 (.ag cs) = cs.all p9 := (rfl)
theorem b7F {v : Value} : p9 (.g v) = true := (rfl)
theorem b2y {z : Nat} {es : List (List Cel)} : p9 (.sl true z es) = true := (rfl)
theorem d2t {cs news : List Cel} {off : Nat} : wr cs off news = cs.take off ++ news ++ cs.drop (off + news.length) := (rfl)
end
theorem a1U {α : Type} (f : Nat → α) (k : Nat) (v : α) (j : Nat) : upd f k v j = if j = k then v else f j := (rfl)
theorem a1N (j : Nat) (v : Val) (l : List (Nat × Val)) (n : Nat) : m9 ((j, v) :: l) n = if n = j then v else m9 l n := (rfl)
theorem a3l (n : Nat) : m9 [] n = .any := (rfl)
theorem b4n {α : Type} (j : Nat) (v : α) (l : List (Nat × α)) (n : Nat) : f9 ((j, v) :: l) n = if n = j then some v else f9 l n := (rfl)
theorem b6l {α : Type} (n : Nat) : (f9 ([] : List (Nat × α)) n) = none := (rfl)
theorem wrap_i64 (n : Int) (h1 : -9223372036854775808 ≤ n) (h2 : n ≤ 9223372036854775807) : IntKind.i64.wrap n = n := IntWalk.i64_in n ⟨h1, h2⟩
theorem b7d (n : Int) (h1 : 0 ≤ n) (h2 : n ≤ 18446744073709551615) : IntKind.u64.wrap n = n := IntWalk.u64_in n ⟨h1, h2⟩
end
attribute [go_sem] d0h c6v c6i b2o b4x b2t b1T c8G d1h c1u c4k c7y c9h c5E a5Z a5R
attribute [go_sem] c1z a6S c8v d0T d1a c9D d0Z d2z c8m d0K d2O d2N b9B c8s b8Q a5A a6s a9m a6v a5w a5O b0e a5U b0j b3T a9s d0u c2N d3M d0C d2u d2S b6P d3S c2Y d2C b6j c9Z b9D b2u c2T b9r b3J c9p c0L d3J c4I c5D c8l c4i c1H c8q c1R c9d c4N d0R b1z c3x d5U d5t d5h d6a d6k d0A b8p b6n c2G b6B a8W b1s c5A c3S b8A b7g b5e b7f d1n d5W a6t c3Q b1R d1Q a8T b3r b4o b7J b4v b7Y c4J b3k a9G a6j a9e b9u b5F b5E b6o d0q d0J c8a c9X a9q a6a d2f c9y c5d b6w b7Z b8F c8y c9q c2C b7G c6K d0F c9n b4X d3c c4q c4a c1T c4M c2H c4e c4n c3D c0W c2K c2X c3F c1G c8h c2q c2p b4H b5W b4U b7K b4S b6g b7c d5b c7B c7h d0c c5p b4T b3M b8O c4d b5U c9s d2G c7t c7S c9U c7P c7Z b7b b6X b6t b8a c6Y c8r c7D d0v b9e b7y b2E b6W c8A c7g c9c d2m d3o c7F c6E b6k b5j d3G c7j c4u d0y c7p d0M d2V c1L c4c a7R c0b e_append b7w c1v c3v b3f b7U b6a b8Y b5k b9s b7S b6A b3A b5T b0z c1U b9m b6N b2p c1F c9P c8I b8I c2r c2E a8L c3t b1I a9T b2q a9E b6y b7i b1D a9x b5y b6v b3i b4d d3D c6l d0Q d3Z c3u a9L a8Y b5Q b5R b3z c2g c6s c7U c2h c6p c1Q c3n b5K c1b b6C b2S c0T c2f b7M c1V b6h c1N b5P c4r b8G b7V b0l b4g b7u b3y b3q a9a b1M b1n b3D a8Z b3s b0M b2O a9l a9b b3G c1f b6R a9U d1r b8e b6J b0Y d6q b4I c8x c3q b1J a9J a6F a6K d2H c9z c3j a9A b0U b7F b2y d2t a1U a1N a3l b4n b6l wrap_i64 b7d List.all_cons List.all_nil List.cons_append List.nil_append List.append_nil List.drop_succ_cons List.drop_zero List.drop_nil List.take_succ_cons List.take_zero List.take_nil List.length_cons List.length_nil List.getElem?_cons_zero List.getElem?_cons_succ if_true if_false decide_eq_true_eq decide_eq_false_iff_not Bool.and_true Bool.true_and Bool.and_self and_true true_and and_self List.mem_cons List.not_mem_nil or_false false_or or_true true_or forall_const Bool.true_eq_false Bool.false_eq_true false_implies implies_true imp_self Bool.not_true Bool.not_false Nat.zero_add Nat.add_zero not_false_eq_true List.map_cons List.map_nil Option.map_some Option.map_none
attribute [go_sem high] a7d a4O c7a c0K b9Z c0a c0E a7Y a4r
section
variable {P : Program} {Q : AX → AS → Prop} {s : AS} {k : List KI} {kp : Option Keep} {l : List GI}
def d1y (p X : Prop) : Prop := p ∧ X
theorem c4g {p X : Prop} (h : p) : d1y p X = X := propext ⟨fun h => h.2, fun h' => ⟨h, h'⟩⟩
theorem b3a {X : Prop} : d1y True X = X := propext ⟨fun h => h.2, fun h' => ⟨trivial, h'⟩⟩
theorem nd {p X : Prop} (h : p) (hX : p → X) : d1y p X := ⟨h, hX h⟩
theorem b8h {p : Prop} : sg P (.need p s) l kp k Q = d1y p (rg P l kp k Q s) := (rfl)
theorem a9z {p : Prop} (h : p) : sg P (.need p s) l kp k Q = rg P l kp k Q s := by rw [c3k]; exact propext ⟨fun h => h.2, fun h' => ⟨h, h'⟩⟩
theorem c6B {p : Prop} [Decidable p] {a b : AC} (h : p) : cnd P (.one (.g (.bool (decide p)))) a b k Q s = ex P a k Q s := by rw [decide_eq_true h, a7d]
theorem d0b {p : Prop} [Decidable p] {a b : AC} (h : ¬p) : cnd P (.one (.g (.bool (decide p)))) a b k Q s = ex P b k Q s := by rw [decide_eq_false h, a4O]
theorem c3H {p : Prop} [Decidable p] {g : Nat} {d : Option Nat} {i : Ins} (h : p) : gdG P (.one (.g (.bool (decide p)))) g true d i l kp k Q s = rg P (⟨d, none, i⟩ :: l) kp k Q (s.fix g true) := by rw [decide_eq_true h, c0K]
theorem c1t {p : Prop} [Decidable p] {g : Nat} {d : Option Nat} {i : Ins} (h : ¬p) : gdG P (.one (.g (.bool (decide p)))) g false d i l kp k Q s = rg P (⟨d, none, i⟩ :: l) kp k Q (s.fix g false) := by rw [decide_eq_false h, b9Z]
theorem c1d {p : Prop} [Decidable p] {g : Nat} {d : Option Nat} {i : Ins} (h : p) : gdG P (.one (.g (.bool (decide p)))) g false d i l kp k Q s = rg P l kp k Q ((s.fix g true).put d (.tu [])) := by rw [decide_eq_true h, c0a]
theorem c2Q {p : Prop} [Decidable p] {g : Nat} {d : Option Nat} {i : Ins} (h : ¬p) : gdG P (.one (.g (.bool (decide p)))) g true d i l kp k Q s = rg P l kp k Q ((s.fix g false).put d (.tu [])) := by rw [decide_eq_false h, c0E]
theorem c8R {p : Prop} [Decidable p] {a b : Val} {d : Option Nat} (h : p) : pkG P (.one (.g (.bool (decide p)))) a b d l kp k Q s = rg P l kp k Q (s.put d a) := by rw [decide_eq_true h, a7Y]
theorem c9o {p : Prop} [Decidable p] {a b : Val} {d : Option Nat} (h : ¬p) : pkG P (.one (.g (.bool (decide p)))) a b d l kp k Q s = rg P l kp k Q (s.put d b) := by rw [decide_eq_false h, a4r]
theorem c3i {p q : Prop} [Decidable p] [Decidable q] : (decide p && decide q) = decide (p ∧ q) := by simp
theorem c3a {p : Prop} [Decidable p] : (!decide p) = decide (¬p) := by simp
end
attribute [go_sem high] b3a c4g a9z c6B d0b c3H c1t c1d c2Q c8R c9o
attribute [go_sem] c0Y b7D c6C b7j c7G
attribute [go_sem] b6L b7h c5g c1m c3z b6Z b6r b1k b8N c1D c5F b2l b8E b6s c8C b8L c1j c5e c1O c6g c8F c7L d0f c6O c9r c7I c8o c6M c9j c6L b1w d3U b3x c1W d4b c9K c8d c1M d2M b1l b3b b0x b1u c3N b4z c5c b5i c5w b7T b1C b7n b6p c7K d0e c9E c8M b7E c9m d2B b9a c7w d3V b1V c5J d2v b9c b7W d2h a7R c0b d3F d3h c3X b2A c9Q a7n a1l b5p b1t d3l c9S c5i c4s b9o c4A a7f b8r a8L d2D b5v b2S c4W b5C b1j c3r b5V b0S d3W b2Q b7m b2c c3c b5t b7R b4u b8x b7l b7X b8j b8B b5x b1S d1S b6d b5l b8U b6U b4c b7p b3U c2v b7v b7q b0N b8o b8T b5B b9p b4e b7H b2R b4q b0W b8b b1G b4Z b3l b3V b3H c4E b8l b6Y c4p b7e b7a b3X c1a d4p b4a b2J a9V c1J b7L b9l b4V d4o
attribute [go_sem] c3a d2n c4B d0Y c3i b8h c0L d2X d3r d2F c8c c5l c1x b1K b5n d3E d3P d2x c1o c1Y c2y c2j c2W c5b c5B
section
variable {P : Program} {f : FuncId} {fn : Func} {C : AC} {rs : List RV}
def knT (P : Program) (fn : Func) (A : List Ann) : Bool × Bool × Option (AC × List Ann) × Option (List RV) × Bool := (fn.body.isSome, fn.name == "runtime.NumGoroutine", b0 P fn.ntmps (fn.body.getD .skip) A, m8 P fn.results.toList, decide (fn.ntmps ≤ 900000))
abbrev FcT (P : Program) (f : FuncId) (fn : Func) (C : AC) (rs : List RV) : Prop := ∀ {xt : Option (List Cel)} {args : List Val} {R : List Cel → Val → Prop}, (if xt.isSome then 1 else 0) + args.length ≤ fn.ntmps → ex P C [] (M5 xt rs R) (G5 xt args) → FC P f xt args R
abbrev FsT (P : Program) (f : FuncId) (fn : Func) (C : AC) (rs : List RV) : Prop := ∀ {S : List Nat} {H : Hp} {K : Keep} {args : List Val} {R : Hp → Val → Prop}, args.length ≤ fn.ntmps → (∀ p ∈ H.bs, p.1 = 0 ∨ XK ≤ p.1) → (∀ p ∈ H.rs, XK ≤ p.1) → ex P C [] (a4k S H K rs R) (a3w H args) → G9 P f S H args R
abbrev FmT (P : Program) (f : FuncId) (fn : Func) (C : AC) (rs : List RV) : Prop := ∀ {H : Hp} {K : Keep} {args : List Val} {R : Hp → Val → Prop}, args.length ≤ fn.ntmps → (∀ p ∈ H.bs, p.1 = 0 ∨ XK ≤ p.1) → (∀ p ∈ H.rs, XK ≤ p.1) → ex P C [] (a2w H K rs R) (a3w H args) → FCM P f H args R
variable (A : List Ann) (hf : P.funcs[f]? = some fn) (hk : knT P fn A = (true, false, some (C, []), some rs, true))
include hf hk
theorem d2q : FcT P f fn C rs := fun hn h => by
 simp only [knT, Prod.mk.injEq] at hk
 obtain ⟨h1, h2, h3, h4, h5⟩ := hk
 obtain ⟨b, hb⟩ := Option.isSome_iff_exists.1 h1
 rw [hb] at h3
 exact b4i hf hb h2 h3 h4 (of_decide_eq_true h5) hn h
theorem c4Z : FsT P f fn C rs := fun hn hkb hkr h => by
 simp only [knT, Prod.mk.injEq] at hk
 obtain ⟨h1, h2, h3, h4, h5⟩ := hk
 obtain ⟨b, hb⟩ := Option.isSome_iff_exists.1 h1
 rw [hb] at h3
 exact a1k hf hb h2 h3 h4 (of_decide_eq_true h5) hn hkb hkr h
theorem c6T : FmT P f fn C rs := fun hn hkb hkr h => by
 simp only [knT, Prod.mk.injEq] at hk
 obtain ⟨h1, h2, h3, h4, h5⟩ := hk
 obtain ⟨b, hb⟩ := Option.isSome_iff_exists.1 h1
 rw [hb] at h3
 exact a9k hf hb h2 h3 h4 (of_decide_eq_true h5) hn hkb hkr h
end
attribute [go_sem] eq_self decide_true decide_false not_true_eq_false not_false_eq_true
attribute [go_sem_proc] reduceIte reduceCtorEq Nat.reduceEqDiff Nat.reduceAdd Nat.reduceSub Nat.reduceLeDiff
def gi0 : GI := ⟨none, none, .mv (.t 0)⟩
def cq (P : Program) (N : Nat) : Code → List Ann → AC × List Ann
 | .region _ ops false, an :: l => (a0j (T0 (.reg false (ops.toList.map fun o => (l8 P N an.calls ops o).getD gi0) an.keep) an.owns) an.tys, l)
 | .region _ ops true, an :: l => (a0j (T0 (.reg true (inter (a3f an.lims 0 (ops.toList.map fun o => (l8 P N an.calls ops o).getD gi0))) an.keep) an.owns) an.tys, l)
 | .seq a b, l => (.seq (cq P N a l).1 (cq P N b (cq P N a l).2).1, (cq P N b (cq P N a l).2).2)
 | .cond c a b, l => (.cond ((opd c).getD (.t 0)) (cq P N a l).1 (cq P N b (cq P N a l).2).1, (cq P N b (cq P N a l).2).2)
 | .block id a, l => (.block id (cq P N a l).1, (cq P N a l).2)
 | .loop a, l => (.loop (cq P N a l).1, (cq P N a l).2)
 | .exit id, l => (.exit id, l)
 | .ret, l => (.ret, l)
 | _, l => (.skip, l)
theorem a4D {α β : Type} {f : α → Option β} (d : β) : ∀ {l : List α} {gs : List β}, l.mapM f = some gs → l.map (fun o => (f o).getD d) = gs
 | [], gs, h => by simp at h; subst h; rfl
 | a :: l, gs, h => by
  simp only [List.mapM_cons, Option.bind_eq_bind, Option.bind_eq_some_iff, Option.pure_def, Option.some.injEq] at h
  obtain ⟨b, hb, bs, hbs, rfl⟩ := h
  simp [hb, a4D d hbs]
theorem d3q {P : Program} {N : Nat} : ∀ (c : Code) (l : List Ann) (x : AC × List Ann), b0 P N c l = some x → cq P N c l = x := by
 intro c
 induction c with
 | region id ops d =>
  intro l x h
  cases d <;> cases l <;> simp only [b0] at h <;> first | (cases h; done) | skip
  all_goals (
   split at h
   ·rename_i gs hg
    have := a4D gi0 hg
    simp only [cq, this]
    grind
   ·cases h)
 | seq a b iha ihb =>
  intro l x h
  simp only [b0] at h
  split at h
  ·rename_i y l1 h1
   split at h
   ·rename_i z l2 h2
    simp only [cq, iha _ _ h1, ihb _ _ h2]
    exact Option.some.inj h
   ·cases h
  ·cases h
 | cond c a b iha ihb =>
  intro l x h
  simp only [b0] at h
  split at h
  ·rename_i c' y l1 h0 h1
   split at h
   ·rename_i z l2 h2
    simp only [cq, iha _ _ h1, ihb _ _ h2, h0]
    exact Option.some.inj h
   ·cases h
  ·cases h
 | block id a ih =>
  intro l x h
  simp only [b0] at h
  split at h
  ·rename_i y l1 h1
   simp only [cq, ih _ _ h1]; exact Option.some.inj h
  ·cases h
 | loop a ih =>
  intro l x h
  simp only [b0] at h
  split at h
  ·rename_i y l1 h1
   simp only [cq, ih _ _ h1]; exact Option.some.inj h
  ·cases h
 | skip => intro l x h; exact Option.some.inj h
 | exit id => intro l x h; exact Option.some.inj h
 | ret => intro l x h; exact Option.some.inj h
 | _ => intro l x h; cases h
def cc (P : Program) (fn : Func) (A : List Ann) : AC := (cq P fn.ntmps (fn.body.getD .skip) A).1
def rq (P : Program) (fn : Func) : List RV := (m8 P fn.results.toList).getD []
def knQ (P : Program) (fn : Func) (A : List Ann) : Bool := fn.body.isSome && !(fn.name == "runtime.NumGoroutine") && (match b0 P fn.ntmps (fn.body.getD .skip) A with | some (_, []) => true | _ => false) && (m8 P fn.results.toList).isSome && decide (fn.ntmps ≤ 900000)
theorem c3V {P : Program} {fn : Func} {A : List Ann} (h : knQ P fn A = true) : knT P fn A = (true, false, some (cc P fn A, []), some (rq P fn), true) := by
 simp only [knQ, Bool.and_eq_true] at h
 obtain ⟨⟨⟨⟨h1, h2⟩, h3⟩, h4⟩, h5⟩ := h
 simp only [knT, Prod.mk.injEq]
 refine ⟨h1, by simpa using h2, ?_, ?_, h5⟩
 ·split at h3
  ·rename_i x hx
   rw [hx, cc, d3q _ _ _ hx]
  ·cases h3
 ·obtain ⟨rs, hr⟩ := Option.isSome_iff_exists.1 h4
  rw [rq, hr]; rfl
section
variable {P : Program} {f : FuncId} {fn : Func} {C : AC} {rs : List RV} (hf : P.funcs[f]? = some fn) (A : List Ann)
include hf
theorem fcE {xt : Option (List Cel)} {args : List Val} {R : List Cel → Val → Prop} (h : ex P C [] (M5 xt rs R) (G5 xt args)) (hk : knQ P fn A = true := by kernel_rfl) (hr : rq P fn = rs := by conv => lhs; cbv) (hC : cc P fn A = C := by conv => lhs; cbv) (hn : (if xt.isSome then 1 else 0) + args.length ≤ fn.ntmps := by simp +arith) : FC P f xt args R := by
 have := c3V hk
 rw [hr, hC] at this
 exact d2q A hf this hn h
theorem fmE {H : Hp} {args : List Val} {R : Hp → Val → Prop} (K : Keep) (h : ex P C [] (a2w H K rs R) (a3w H args)) (hk : knQ P fn A = true := by kernel_rfl) (hr : rq P fn = rs := by conv => lhs; cbv) (hC : cc P fn A = C := by conv => lhs; cbv) (hn : args.length ≤ fn.ntmps := by simp +arith) (hkb : ∀ p ∈ H.bs, p.1 = 0 ∨ XK ≤ p.1 := by simp [XK]) (hkr : ∀ p ∈ H.rs, XK ≤ p.1 := by simp [XK]) : FCM P f H args R := by
 have := c3V hk
 rw [hr, hC] at this
 exact c6T A hf this hn hkb hkr h
theorem fsE {S : List Nat} {H : Hp} {args : List Val} {R : Hp → Val → Prop} (K : Keep) (h : ex P C [] (a4k S H K rs R) (a3w H args)) (hk : knQ P fn A = true := by kernel_rfl) (hr : rq P fn = rs := by conv => lhs; cbv) (hC : cc P fn A = C := by conv => lhs; cbv) (hn : args.length ≤ fn.ntmps := by simp +arith) (hkb : ∀ p ∈ H.bs, p.1 = 0 ∨ XK ≤ p.1 := by simp [XK]) (hkr : ∀ p ∈ H.rs, XK ≤ p.1 := by simp [XK]) : G9 P f S H args R := by
 have := c3V hk
 rw [hr, hC] at this
 exact c4Z A hf this hn hkb hkr h
end
section
variable {P : Program} {f : FuncId} {vargs : List Val} {x : Val} {v : Bool} {d : Option Nat} {l : List GI} {kp : Option Keep} {k : List KI} {Q : AX → AS → Prop} {s : AS} {A B : Prop}
theorem qv (hb : B) (h : A = B := by (conv => lhs; simp (maxSteps := 1000000) (disch := omega) only [go_sem]) <;> rfl) : A := h ▸ hb
theorem qt (h : A = True := by (conv => lhs; simp (maxSteps := 1000000) (disch := omega) only [go_sem]) <;> rfl) : A := h ▸ trivial
theorem qc (hf : FC P f none vargs (fun _ r => r = x)) (h2 : rg P l kp k Q (s.put d x)) (h : A = c8Z P f vargs v d l kp k Q s := by (conv => lhs; simp (maxSteps := 1000000) (disch := omega) only [go_sem]) <;> rfl) (h1 : Q5 x = true ∨ N2 x = true ∧ v = true := by exact .inl rfl) : A := h ▸ n6 hf h1 h2
theorem qvs (hb : B) (h : A = B := by (conv => lhs; simp (maxSteps := 1000000) (disch := (first | omega | assumption)) only [go_sem]) <;> rfl) : A := h ▸ hb
theorem qts (h : A = True := by (conv => lhs; simp (maxSteps := 1000000) (disch := (first | omega | assumption)) only [go_sem]) <;> rfl) : A := h ▸ trivial
theorem qcs (hf : FC P f none vargs (fun _ r => r = x)) (h2 : rg P l kp k Q (s.put d x)) (h : A = c8Z P f vargs v d l kp k Q s := by (conv => lhs; simp (maxSteps := 1000000) (disch := (first | omega | assumption)) only [go_sem]) <;> rfl) (h1 : Q5 x = true ∨ N2 x = true ∧ v = true := by exact .inl rfl) : A := h ▸ n6 hf h1 h2
end
def aM (b r : List Nat) (l : List (List Nat)) : List Ann := l.map fun t => aN t b r
def aL (l : List (List Nat)) : List Ann := l.map fun t => aN t [] []
end Go.Ai

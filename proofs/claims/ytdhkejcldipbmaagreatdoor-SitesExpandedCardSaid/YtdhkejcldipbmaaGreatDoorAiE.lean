/-
 The abstract layer: the equations by which simp runs abstract code.
-/
import Derived.Test.YtdhkejcldipbmaaGreatDoorAiF
namespace Go.Ai
open Go
set_option linter.unusedSimpArgs false
set_option linter.unusedVariables false
inductive KI where
 | code (c : AC)
 | blk (id : Nat)
 | lp (I : AS → Prop)
def kont (P : Program) : List KI → (AX → AS → Prop) → AX → AS → Prop
 | [], Q => Q
 | .code c :: k, Q => thenX (awp P c (kont P k Q)) (kont P k Q)
 | .blk id :: k, Q => blkX id (kont P k Q)
 | .lp I :: k, Q => thenX I (kont P k Q)
def ex (P : Program) (c : AC) (k : List KI) (Q : AX → AS → Prop) (s : AS) : Prop := awp P c (kont P k Q) s
def rg (P : Program) (l : List GI) (kp : Option Keep) (k : List KI) (Q : AX → AS → Prop) (s : AS) : Prop := aops P l (fun s' => kont P k Q .nrm (s'.keep kp)) s
section
variable {P : Program} {Q : AX → AS → Prop} {s : AS} {k : List KI} {kp : Option Keep} {l : List GI}
theorem ex_of {c : AC} (h : ex P c [] Q s) : awp P c Q s := h
theorem ex_seq {a b : AC} : ex P (.seq a b) k Q s = ex P a (.code b :: k) Q s := (rfl)
theorem ex_block {id : Nat} {a : AC} : ex P (.block id a) k Q s = ex P a (.blk id :: k) Q s := (rfl)
theorem ex_skip_code {b : AC} : ex P .skip (.code b :: k) Q s = ex P b k Q s := (rfl)
theorem ex_skip_blk {id : Nat} : ex P .skip (.blk id :: k) Q s = ex P .skip k Q s := (rfl)
theorem ex_skip_lp {I : AS → Prop} : ex P .skip (.lp I :: k) Q s = I s := (rfl)
theorem ex_skip_nil : ex P .skip [] Q s = Q .nrm s := (rfl)
theorem ex_exit_code {id : Nat} {b : AC} : ex P (.exit id) (.code b :: k) Q s = ex P (.exit id) k Q s := (rfl)
theorem ex_exit_blk {id j : Nat} : ex P (.exit id) (.blk j :: k) Q s = if id = j then ex P .skip k Q s else ex P (.exit id) k Q s := (rfl)
theorem ex_exit_lp {id : Nat} {I : AS → Prop} : ex P (.exit id) (.lp I :: k) Q s = ex P (.exit id) k Q s := (rfl)
theorem ex_ret_code {b : AC} : ex P .ret (.code b :: k) Q s = ex P .ret k Q s := (rfl)
theorem ex_ret_blk {j : Nat} : ex P .ret (.blk j :: k) Q s = ex P .ret k Q s := (rfl)
theorem ex_ret_lp {I : AS → Prop} : ex P .ret (.lp I :: k) Q s = ex P .ret k Q s := (rfl)
theorem ex_ret_nil : ex P .ret [] Q s = Q .ret s := (rfl)
theorem ex_own_ {j : Nat} {E : TypeId} {z : Nat} : ex P (.own j E z) k Q s = ownS s j E z (kont P k Q .nrm) := (rfl)
theorem ex_ty {j z : Nat} : ex P (.ty j z) k Q s = ex P .skip k Q { s with tm := upd s.tm j (tyV z (s.tm j)) } := (rfl)
theorem tyV_nil {z c : Nat} : tyV z (.one (.g (.slice none 0 c))) = .one (.sl true z []) := (rfl)
theorem tyV_sl {z z' : Nat} {fr : Bool} {es : List (List Cel)} : tyV z (.one (.sl fr z' es)) = .one (.sl fr z' es) := (rfl)
theorem ex_reg {d : Bool} : ex P (.reg d l kp) k Q s = rg P l kp k Q s := (rfl)
def cnd (P : Program) (v : Val) (a b : AC) (k : List KI) (Q : AX → AS → Prop) (s : AS) : Prop :=
 match v with
 | .one (.g (.bool t)) => (t = true → ex P a k Q s) ∧ (t = false → ex P b k Q s)
 | _ => False
theorem ex_cond {c : Opd} {a b : AC} : ex P (.cond c a b) k Q s = cnd P (s.ev c) a b k Q s := by
 unfold ex cnd
 simp only [awp]
 split
 ·rename_i t h; rw [h]; cases t <;> simp [ex]
 ·rename_i h; split
  ·rename_i t h'; exact absurd h' (h t)
  ·rfl
theorem cnd_b {t : Bool} {a b : AC} : cnd P (.one (.g (.bool t))) a b k Q s = ((t = true → ex P a k Q s) ∧ (t = false → ex P b k Q s)) := (rfl)
theorem cnd_true {a b : AC} : cnd P (.one (.g (.bool true))) a b k Q s = ex P a k Q s := by simp [cnd]
theorem cnd_false {a b : AC} : cnd P (.one (.g (.bool false))) a b k Q s = ex P b k Q s := by simp [cnd]
theorem rg_nil : rg P [] kp k Q s = ex P .skip k Q (s.keep kp) := (rfl)
/-- What comes of a step. -/
def sg (P : Program) (r : SRes) (l : List GI) (kp : Option Keep) (k : List KI) (Q : AX → AS → Prop) : Prop := SGood r (rg P l kp k Q)
theorem sg_ok : sg P (.ok s) l kp k Q = rg P l kp k Q s := (rfl)
theorem sg_need {p : Prop} [Decidable p] : sg P (.need p s) l kp k Q = (p ∧ rg P l kp k Q s) := (rfl)
def gdG (P : Program) (v : Val) (g : Nat) (want : Bool) (d : Option Nat) (i : Ins) (l : List GI) (kp : Option Keep) (k : List KI) (Q : AX → AS → Prop) (s : AS) : Prop :=
 match v with
 | .one (.g (.bool b)) => (b = want → rg P (⟨d, none, i⟩ :: l) kp k Q (s.fix g want)) ∧ (b = (!want) → rg P l kp k Q ((s.fix g (!want)).put d (.tu [])))
 | .tu [] => rg P l kp k Q (s.put d (.tu []))
 | _ => False
theorem gdG_b {b want : Bool} {g : Nat} {d : Option Nat} {i : Ins} : gdG P (.one (.g (.bool b))) g want d i l kp k Q s =
  ((b = want → rg P (⟨d, none, i⟩ :: l) kp k Q (s.fix g want)) ∧ (b = (!want) → rg P l kp k Q ((s.fix g (!want)).put d (.tu [])))) := (rfl)
theorem gdG_tu {want : Bool} {g : Nat} {d : Option Nat} {i : Ins} : gdG P (.tu []) g want d i l kp k Q s = rg P l kp k Q (s.put d (.tu [])) := (rfl)
theorem gdG_tt {g : Nat} {d : Option Nat} {i : Ins} : gdG P (.one (.g (.bool true))) g true d i l kp k Q s = rg P (⟨d, none, i⟩ :: l) kp k Q (s.fix g true) := by simp [gdG]
theorem gdG_ff {g : Nat} {d : Option Nat} {i : Ins} : gdG P (.one (.g (.bool false))) g false d i l kp k Q s = rg P (⟨d, none, i⟩ :: l) kp k Q (s.fix g false) := by simp [gdG]
theorem gdG_tf {g : Nat} {d : Option Nat} {i : Ins} : gdG P (.one (.g (.bool true))) g false d i l kp k Q s = rg P l kp k Q ((s.fix g true).put d (.tu [])) := by simp [gdG]
theorem gdG_ft {g : Nat} {d : Option Nat} {i : Ins} : gdG P (.one (.g (.bool false))) g true d i l kp k Q s = rg P l kp k Q ((s.fix g false).put d (.tu [])) := by simp [gdG]
theorem rg_guard {g : Nat} {want : Bool} {d : Option Nat} {i : Ins} : rg P (⟨d, some (g, want), i⟩ :: l) kp k Q s = gdG P (s.tm g) g want d i l kp k Q s := by
 unfold gdG rg
 simp only [aops, gstep]
 split
 ·rename_i b h; rw [h]; cases b <;> cases want <;> simp <;> exact Iff.rfl
 ·rename_i h; rw [h]
 ·rename_i h1 h2; split
  ·rename_i t h'; exact absurd h' (h1 t)
  ·rename_i h'; exact absurd h' h2
  ·rfl
def pkG (P : Program) (v : Val) (a b : Val) (d : Option Nat) (l : List GI) (kp : Option Keep) (k : List KI) (Q : AX → AS → Prop) (s : AS) : Prop :=
 match v with
 | .one (.g (.bool t)) => (t = true → rg P l kp k Q (s.put d a)) ∧ (t = false → rg P l kp k Q (s.put d b))
 | _ => False
theorem pkG_b {t : Bool} {a b : Val} {d : Option Nat} : pkG P (.one (.g (.bool t))) a b d l kp k Q s = ((t = true → rg P l kp k Q (s.put d a)) ∧ (t = false → rg P l kp k Q (s.put d b))) := (rfl)
theorem pkG_true {a b : Val} {d : Option Nat} : pkG P (.one (.g (.bool true))) a b d l kp k Q s = rg P l kp k Q (s.put d a) := by simp [pkG]
theorem pkG_false {a b : Val} {d : Option Nat} : pkG P (.one (.g (.bool false))) a b d l kp k Q s = rg P l kp k Q (s.put d b) := by simp [pkG]
theorem rg_pick {c a b : Opd} {d : Option Nat} : rg P (⟨d, none, .pick c a b⟩ :: l) kp k Q s = pkG P (s.ev c) (s.ev a) (s.ev b) d l kp k Q s := by
 unfold pkG rg
 simp only [aops, gstep, istep]
 split
 ·rename_i t h; rw [h]; cases t <;> simp
 ·rename_i h; split
  ·rename_i t h'; exact absurd h' (h t)
  ·rfl
theorem rg_mv {d : Option Nat} (x : Opd) : rg P (⟨d, none, .mv x⟩ :: l) kp k Q s = sg P (estep d (.mv x) s) l kp k Q := (rfl)
theorem rg_alloc {d : Option Nat} (z : List Value) : rg P (⟨d, none, .alloc z⟩ :: l) kp k Q s = sg P (estep d (.alloc z) s) l kp k Q := (rfl)
theorem rg_box {d : Option Nat} (x : Opd) : rg P (⟨d, none, .box x⟩ :: l) kp k Q s = sg P (estep d (.box x) s) l kp k Q := (rfl)
theorem rg_build {d : Option Nat} (z : List Value) (ps : List (Nat × Nat × Opd)) : rg P (⟨d, none, .build z ps⟩ :: l) kp k Q s = sg P (estep d (.build z ps) s) l kp k Q := (rfl)
theorem rg_bslice {d : Option Nat} (z n : Nat) (ps : List Opd) : rg P (⟨d, none, .bslice z n ps⟩ :: l) kp k Q s = sg P (estep d (.bslice z n ps) s) l kp k Q := (rfl)
theorem rg_load {d : Option Nat} (a : Bool) (n : Nat) (x : Opd) : rg P (⟨d, none, .load a n x⟩ :: l) kp k Q s = sg P (estep d (.load a n x) s) l kp k Q := (rfl)
theorem rg_store {d : Option Nat} (n : Nat) (x y : Opd) : rg P (⟨d, none, .store n x y⟩ :: l) kp k Q s = sg P (estep d (.store n x y) s) l kp k Q := (rfl)
theorem rg_nilchk {d : Option Nat} (x : Opd) : rg P (⟨d, none, .nilchk x⟩ :: l) kp k Q s = sg P (estep d (.nilchk x) s) l kp k Q := (rfl)
theorem rg_bin {d : Option Nat} (op : BinOp) (x y : Opd) : rg P (⟨d, none, .bin op x y⟩ :: l) kp k Q s = sg P (estep d (.bin op x y) s) l kp k Q := (rfl)
theorem rg_eqs {d : Option Nat} (b g : Bool) (ks : List KTy) (x y : Opd) : rg P (⟨d, none, .eqs b g ks x y⟩ :: l) kp k Q s = sg P (estep d (.eqs b g ks x y) s) l kp k Q := (rfl)
theorem rg_un {d : Option Nat} (op : UnOp) (x : Opd) : rg P (⟨d, none, .un op x⟩ :: l) kp k Q s = sg P (estep d (.un op x) s) l kp k Q := (rfl)
theorem rg_conv {d : Option Nat} (j : IntKind) (x : Opd) : rg P (⟨d, none, .conv j x⟩ :: l) kp k Q s = sg P (estep d (.conv j x) s) l kp k Q := (rfl)
theorem rg_mkfn {d : Option Nat} (f : FuncId) (cs : List Opd) : rg P (⟨d, none, .mkfn f cs⟩ :: l) kp k Q s = sg P (estep d (.mkfn f cs) s) l kp k Q := (rfl)
theorem rg_slc {d : Option Nat} (z : Nat) (x : Opd) (lo hi : Option Opd) : rg P (⟨d, none, .slc z x lo hi⟩ :: l) kp k Q s = sg P (estep d (.slc z x lo hi) s) l kp k Q := (rfl)
theorem rg_fadr {d : Option Nat} (o : Nat) (x : Opd) : rg P (⟨d, none, .fadr o x⟩ :: l) kp k Q s = sg P (estep d (.fadr o x) s) l kp k Q := (rfl)
theorem rg_fld {d : Option Nat} (o : Nat) (a : Bool) (n : Nat) (x : Opd) : rg P (⟨d, none, .fld o a n x⟩ :: l) kp k Q s = sg P (estep d (.fld o a n x) s) l kp k Q := (rfl)
theorem rg_iadr {d : Option Nat} (z : Nat) (x y : Opd) : rg P (⟨d, none, .iadr z x y⟩ :: l) kp k Q s = sg P (estep d (.iadr z x y) s) l kp k Q := (rfl)
theorem rg_idx {d : Option Nat} (x y : Opd) : rg P (⟨d, none, .idx x y⟩ :: l) kp k Q s = sg P (estep d (.idx x y) s) l kp k Q := (rfl)
theorem rg_extr {d : Option Nat} (x : Opd) (n : Nat) : rg P (⟨d, none, .extr x n⟩ :: l) kp k Q s = sg P (estep d (.extr x n) s) l kp k Q := (rfl)
theorem rg_len {d : Option Nat} (x : Opd) : rg P (⟨d, none, .len x⟩ :: l) kp k Q s = sg P (estep d (.len x) s) l kp k Q := (rfl)
theorem rg_slen {d : Option Nat} (x : Opd) : rg P (⟨d, none, .slen x⟩ :: l) kp k Q s = sg P (estep d (.slen x) s) l kp k Q := (rfl)
theorem rg_mnx {d : Option Nat} (b : Bool) (x y : Opd) : rg P (⟨d, none, .mnx b x y⟩ :: l) kp k Q s = sg P (estep d (.mnx b x y) s) l kp k Q := (rfl)
theorem rg_sfx {d : Option Nat} (z : Nat) (x y : Opd) : rg P (⟨d, none, .sfx z x y⟩ :: l) kp k Q s = sg P (estep d (.sfx z x y) s) l kp k Q := (rfl)
theorem rg_trn {d : Option Nat} (z : Nat) (x y : Opd) : rg P (⟨d, none, .trn z x y⟩ :: l) kp k Q s = sg P (estep d (.trn z x y) s) l kp k Q := (rfl)
theorem rg_clr {d : Option Nat} (E : TypeId) (z : Nat) (zero : List Value) (x : Opd) : rg P (⟨d, none, .clr E z zero x⟩ :: l) kp k Q s = sg P (estep d (.clr E z zero x) s) l kp k Q := (rfl)
theorem rg_mkr {d : Option Nat} (E : TypeId) (z b : Nat) (zero : List Value) (x y : Opd) : rg P (⟨d, none, .mkr E z b zero x y⟩ :: l) kp k Q s = sg P (estep d (.mkr E z b zero x y) s) l kp k Q := (rfl)
theorem rg_mkm {d : Option Nat} (kc : Nat) : rg P (⟨d, none, .mkm kc⟩ :: l) kp k Q s = sg P (estep d (.mkm kc) s) l kp k Q := (rfl)
theorem rg_mdl {d : Option Nat} (kc : Nat) (x y : Opd) : rg P (⟨d, none, .mdl kc x y⟩ :: l) kp k Q s = sg P (estep d (.mdl kc x y) s) l kp k Q := (rfl)
theorem rg_mup {d : Option Nat} (kc : Nat) (x y z : Opd) : rg P (⟨d, none, .mup kc x y z⟩ :: l) kp k Q s = sg P (estep d (.mup kc x y z) s) l kp k Q := (rfl)
theorem rg_aadr {d : Option Nat} (n z : Nat) (x y : Opd) : rg P (⟨d, none, .aadr n z x y⟩ :: l) kp k Q s = sg P (estep d (.aadr n z x y) s) l kp k Q := (rfl)
theorem rg_ssub {d : Option Nat} (x : Opd) (lo hi : Option Opd) : rg P (⟨d, none, .ssub x lo hi⟩ :: l) kp k Q s = sg P (estep d (.ssub x lo hi) s) l kp k Q := (rfl)
theorem rg_mlk {d : Option Nat} (kc : Nat) (z : Value) (b : Bool) (zn : Nat) (x y : Opd) : rg P (⟨d, none, .mlk kc z b zn x y⟩ :: l) kp k Q s = sg P (estep d (.mlk kc z b zn x y) s) l kp k Q := (rfl)
theorem rg_bslr {d : Option Nat} (E : TypeId) (z n : Nat) (ps : List Opd) : rg P (⟨d, none, .bslr E z n ps⟩ :: l) kp k Q s = sg P (estep d (.bslr E z n ps) s) l kp k Q := (rfl)
theorem rg_chk {d : Option Nat} (x : Opd) (key : Option Nat) : rg P (⟨d, none, .chk x key⟩ :: l) kp k Q s = sg P (estep d (.chk x key) s) l kp k Q := (rfl)
theorem rg_append {d : Option Nat} (E : TypeId) (z b : Nat) (x y : Opd) : rg P (⟨d, none, .append E z b x y⟩ :: l) kp k Q s = sg P (estep d (.append E z b x y) s) l kp k Q := (rfl)
/-- A call that is to be met by a contract. -/
def CALL (P : Program) (f : FuncId) (vargs : List Val) (pl : Bool) (d : Option Nat) (l : List GI) (kp : Option Keep) (k : List KI) (Q : AX → AS → Prop) (s : AS) : Prop :=
 ∃ R, FC P f none vargs R ∧ (∃ cs r, R cs r) ∧ ∀ cs r, R cs r → (freshV r = true ∨ (dataRV r = true ∧ pl = true)) ∧ rg P l kp k Q (s.put d r)
/-- A call that is handed a pointer to a box. -/
def CALLX (P : Program) (f : FuncId) (key : Nat) (cs : List Cel) (vargs : List Val) (d : Option Nat) (l : List GI) (kp : Option Keep) (k : List KI) (Q : AX → AS → Prop) (s : AS) : Prop :=
 ∃ R, FC P f (some cs) vargs R ∧ (∃ cs r, R cs r) ∧ ∀ cs' r, R cs' r → dataRV r = true ∧ cs'.all dataRC = true ∧ rg P l kp k Q ({ s with bx := upd s.bx key (some cs') }.put d r)
def clG (P : Program) (f : Val) (args : List Val) (d : Option Nat) (l : List GI) (kp : Option Keep) (k : List KI) (Q : AX → AS → Prop) (s : AS) : Prop :=
 callP P s d f args (rg P l kp k Q)
theorem rg_call {f : Opd} {as : List Opd} {d : Option Nat} : rg P (⟨d, none, .call f as⟩ :: l) kp k Q s = clG P (s.ev f) (as.map s.ev) d l kp k Q s := (rfl)
theorem clG_P {f : FuncId} {caps : List Cel} {args : List Val} {d : Option Nat} :
  clG P (.one (.fn f caps)) args d l kp k Q s = CALL P f ((args ++ caps.map Val.one).map s.view) ((args ++ caps.map Val.one).all plainV) d l kp k Q s := (rfl)
theorem clG_g {f : FuncId} {args : List Val} {d : Option Nat} :
  clG P (.one (.g (.func (.func f) #[] #[]))) args d l kp k Q s = CALL P f (args.map s.view) (args.all plainV) d l kp k Q s := (rfl)
theorem clG_mv {f : FuncId} {caps : List Cel} {d : Option Nat} :
  clG P (.one (.mv f caps)) [] d l kp k Q s = CALL P f ((caps.map Val.one).map s.view) ((caps.map Val.one).all plainV) d l kp k Q s := (rfl)
def clY (P : Program) (f : Val) (args : List Val) (d : Option Nat) (l : List GI) (kp : Option Keep) (k : List KI) (Q : AX → AS → Prop) (s : AS) : Prop :=
 callXS P s d f args (rg P l kp k Q)
theorem rg_callx {f : Opd} {as : List Opd} {d : Option Nat} : rg P (⟨d, none, .callx f as⟩ :: l) kp k Q s = clY P (s.ev f) (as.map s.ev) d l kp k Q s := (rfl)
def clX (P : Program) (f key : Nat) (rest : List Val) (d : Option Nat) (l : List GI) (kp : Option Keep) (k : List KI) (Q : AX → AS → Prop) (s : AS) : Option (List Cel) → Prop
 | some cs => bldK key = false ∧ cs.all plainC = true ∧ rest.all plainV = true ∧ CALLX P f key (cs.map s.viewC) (rest.map s.view) d l kp k Q s
 | none => False
theorem clY_X {f : FuncId} {key : Nat} {rest : List Val} {d : Option Nat} : clY P (.one (.fn f [])) (.one (.bx key 0) :: rest) d l kp k Q s = clX P f key rest d l kp k Q s (s.bx key) := by
 unfold clY callXS callX
 simp only []
 cases hs : s.bx key with
 | none => rfl
 | some cs => rfl
theorem clX_some {f : FuncId} {key : Nat} {rest : List Val} {d : Option Nat} {cs : List Cel} : clX P f key rest d l kp k Q s (some cs) = (bldK key = false ∧ cs.all plainC = true ∧ rest.all plainV = true ∧ CALLX P f key (cs.map s.viewC) (rest.map s.view) d l kp k Q s) := (rfl)
theorem CALL_det {f : FuncId} {vargs : List Val} {pl : Bool} {d : Option Nat} {r : Val} (hf : FC P f none vargs (fun _ x => x = r)) (hr : freshV r = true ∨ (dataRV r = true ∧ pl = true)) (h : rg P l kp k Q (s.put d r)) : CALL P f vargs pl d l kp k Q s :=
 ⟨_, hf, ⟨[], r, rfl⟩, fun _ x hx => by subst hx; exact ⟨hr, h⟩⟩
/-- A call that is handed boxes and rows, to be met by a contract. -/
def CALLM (P : Program) (f : FuncId) (H : Hp) (vargs : List Val) (m : CAnn) (d : Option Nat) (l : List GI) (kp : Option Keep) (k : List KI) (Q : AX → AS → Prop) (s : AS) : Prop :=
 ∃ R, FCMS P f m.sts H vargs R ∧ (∃ H r, R H r) ∧ ∀ H r, R H r → hkOk m H ∧ rg P l kp k Q ((s.after m H).put d (s.backV m r))
def clM (P : Program) (f : Val) (args : List Val) (m : CAnn) (d : Option Nat) (l : List GI) (kp : Option Keep) (k : List KI) (Q : AX → AS → Prop) (s : AS) : Prop :=
 callM P s d f args m (rg P l kp k Q)
theorem rg_callm {f : Opd} {as : List Opd} {m : CAnn} {d : Option Nat} : rg P (⟨d, none, .callm f as m⟩ :: l) kp k Q s = clM P (s.ev f) (as.map s.ev) m d l kp k Q s := (rfl)
theorem clM_P {f : FuncId} {caps : List Cel} {args : List Val} {m : CAnn} {d : Option Nat} :
  clM P (.one (.fn f caps)) args m d l kp k Q s = (okM s m = true ∧ CALLM P f (s.hp m) ((args ++ caps.map Val.one).map (s.passV m)) m d l kp k Q s) := (rfl)
theorem clM_mv {f : FuncId} {caps : List Cel} {m : CAnn} {d : Option Nat} :
  clM P (.one (.mv f caps)) [] m d l kp k Q s = (okM s m = true ∧ CALLM P f (s.hp m) ((caps.map Val.one).map (s.passV m)) m d l kp k Q s) := (rfl)
theorem CALLM_det {f : FuncId} {H X : Hp} {Y : Val} {vargs : List Val} {m : CAnn} {d : Option Nat} (hf : FCMS P f m.sts H vargs (fun H' r' => H' = X ∧ r' = Y)) (hk : X.bs.map (·.1) = m.obs ∧ X.rs.map (·.1) = m.ors) (h : rg P l kp k Q ((s.after m X).put d (s.backV m Y))) : CALLM P f H vargs m d l kp k Q s :=
 ⟨_, hf, ⟨X, Y, rfl, rfl⟩, fun H' r' hx => by obtain ⟨rfl, rfl⟩ := hx; exact ⟨.inl hk, h⟩⟩
/-- What comes back new may be less than was told. -/
theorem CALLM_less {f : FuncId} {H X : Hp} {Y : Val} {vargs : List Val} {m : CAnn} {d : Option Nat} (hf : FCMS P f m.sts H vargs (fun H' r' => H' = X ∧ r' = Y)) (hk : hkB m X = true) (h : rg P l kp k Q ((s.after m X).put d (s.backV m Y))) : CALLM P f H vargs m d l kp k Q s :=
 ⟨_, hf, ⟨X, Y, rfl, rfl⟩, fun H' r' hx => by obtain ⟨rfl, rfl⟩ := hx; exact ⟨.inr hk, h⟩⟩
/-- Two keys, one for the other. -/
def swp (a b k : Nat) : Nat := if k = a then b else if k = b then a else k
theorem swp_swp (a b k : Nat) : swp a b (swp a b k) = k := by
 unfold swp; split <;> (repeat' split) <;> omega
/-- The contract speaks of other keys. -/
theorem CALLM_rnS {f : FuncId} {S : List Nat} {H0 X0 H : Hp} {Y0 : Val} {args0 vargs : List Val} {m : CAnn} {d : Option Nat} (p q : Nat → Nat) (hp : ∀ k, p (p k) = k) (hq : ∀ k, q (q k) = k) (hf : FCMS P f S H0 args0 (fun H' r' => H' = X0 ∧ r' = Y0)) (hna : ∀ x ∈ args0, ∀ xs, x ≠ .tu xs)
  (hS : S.map q = m.sts) (hH : H0.rn p q = H) (ha : args0.map (rnV p q) = vargs) (hk : (X0.rn p q).bs.map (·.1) = m.obs ∧ (X0.rn p q).rs.map (·.1) = m.ors) (h : rg P l kp k Q ((s.after m (X0.rn p q)).put d (s.backV m (rnV p q Y0)))) (hb : H0.bs.all (fun x => bldK x.1 == bldK (p x.1)) = true := by rfl) : CALLM P f H vargs m d l kp k Q s := by
 subst hH; subst ha
 refine ⟨_, hS ▸ fcms_rn hp hq hna hf hb, ⟨_, _, X0, Y0, ⟨rfl, rfl⟩, rfl, rfl⟩, ?_⟩
 rintro H' r' ⟨H1, r1, ⟨rfl, rfl⟩, rfl, rfl⟩
 exact ⟨.inl hk, h⟩
theorem CALLM_rnL {f : FuncId} {S : List Nat} {H0 X0 H : Hp} {Y0 : Val} {args0 vargs : List Val} {m : CAnn} {d : Option Nat} (p q : Nat → Nat) (hp : ∀ k, p (p k) = k) (hq : ∀ k, q (q k) = k) (hf : FCMS P f S H0 args0 (fun H' r' => H' = X0 ∧ r' = Y0)) (hna : ∀ x ∈ args0, ∀ xs, x ≠ .tu xs)
  (hS : S.map q = m.sts) (hH : H0.rn p q = H) (ha : args0.map (rnV p q) = vargs) (hk : hkB m (X0.rn p q) = true) (h : rg P l kp k Q ((s.after m (X0.rn p q)).put d (s.backV m (rnV p q Y0)))) (hb : H0.bs.all (fun x => bldK x.1 == bldK (p x.1)) = true := by rfl) : CALLM P f H vargs m d l kp k Q s := by
 subst hH; subst ha
 refine ⟨_, hS ▸ fcms_rn hp hq hna hf hb, ⟨_, _, X0, Y0, ⟨rfl, rfl⟩, rfl, rfl⟩, ?_⟩
 rintro H' r' ⟨H1, r1, ⟨rfl, rfl⟩, rfl, rfl⟩
 exact ⟨.inr hk, h⟩
theorem CALLM_rn {f : FuncId} {H0 X0 H : Hp} {Y0 : Val} {args0 vargs : List Val} {bks rks obs ors : List Nat} {d : Option Nat} (p q : Nat → Nat) (hp : ∀ k, p (p k) = k) (hq : ∀ k, q (q k) = k) (hf : FCM P f H0 args0 (fun H' r' => H' = X0 ∧ r' = Y0)) (hna : ∀ x ∈ args0, ∀ xs, x ≠ .tu xs)
  (hH : H0.rn p q = H) (ha : args0.map (rnV p q) = vargs) (hk : (X0.rn p q).bs.map (·.1) = obs ∧ (X0.rn p q).rs.map (·.1) = ors) (h : rg P l kp k Q ((s.after ⟨bks, rks, obs, ors, []⟩ (X0.rn p q)).put d (s.backV ⟨bks, rks, obs, ors, []⟩ (rnV p q Y0)))) (hb : H0.bs.all (fun x => bldK x.1 == bldK (p x.1)) = true := by rfl) : CALLM P f H vargs ⟨bks, rks, obs, ors, []⟩ d l kp k Q s :=
 CALLM_rnS p q hp hq hf hna rfl hH ha hk h hb
/-- A loop: st x is the state at its head, x what it hands on; μ falls. -/
theorem ex_loop {X : Type} (st : X → AS) (μ : X → Nat) (x0 : X) {a : AC} (h0 : s = st x0) (round : ∀ x, ex P a (.lp (fun s' => ∃ y, s' = st y ∧ μ y < μ x) :: k) Q (st x)) : ex P (.loop a) k Q s := by
 refine ⟨fun n s => ∃ x, s = st x ∧ μ x = n, μ x0, ⟨x0, h0, rfl⟩, fun n s ⟨x, hs, hn⟩ => ?_⟩
 subst hs; subst hn
 have h := round x
 refine awp_mono a _ _ (fun e s h => ?_) _ h
 cases e with
 | nrm => obtain ⟨y, hy, hlt⟩ := h; exact ⟨μ y, hlt, y, hy, rfl⟩
 | ret => exact h
 | ex id => exact h
/-- A loop with an invariant. -/
theorem ex_loopI {X : Type} (st : X → AS) (I : X → Prop) (μ : X → Nat) (x0 : X) {a : AC} (hI : I x0) (h0 : s = st x0) (round : ∀ x, I x → ex P a (.lp (fun s' => ∃ y, I y ∧ s' = st y ∧ μ y < μ x) :: k) Q (st x)) : ex P (.loop a) k Q s := by
 refine ex_loop (X := { x // I x }) (fun x => st x.1) (fun x => μ x.1) ⟨x0, hI⟩ h0 (fun x => ?_)
 refine awp_mono a _ _ (fun e s h => ?_) _ (round x.1 x.2)
 cases e with
 | nrm => obtain ⟨y, h1, h2, h3⟩ := h; exact ⟨⟨y, h1⟩, h2, h3⟩
 | ret => exact h
 | ex id => exact h
/-- A loop with an invariant over one, two .. variables; the state behind a round comes first, so that unification finds them. -/
theorem ex_loop1 {X : Type} (st : X → AS) (I : X → Prop) (μ : X → Nat) (x0 : X) {a : AC} (hI : I x0) (h0 : s = st x0) (round : ∀ x, I x → ex P a (.lp (fun s' => ∃ y, s' = st y ∧ I y ∧ μ y < μ x) :: k) Q (st x)) : ex P (.loop a) k Q s := by
 refine ex_loopI st I μ x0 hI h0 (fun x hx => ?_)
 refine awp_mono a _ _ (fun e s h => ?_) _ (round x hx)
 cases e with
 | nrm => obtain ⟨y, h1, h2, h3⟩ := h; exact ⟨y, h2, h1, h3⟩
 | ret => exact h
 | ex id => exact h
theorem ex_loop2 {X Y : Type} (st : X → Y → AS) (I : X → Y → Prop) (μ : X → Y → Nat) (x0 : X) (y0 : Y) {a : AC} (hI : I x0 y0) (h0 : s = st x0 y0)
  (round : ∀ x y, I x y → ex P a (.lp (fun s' => ∃ x' y', s' = st x' y' ∧ I x' y' ∧ μ x' y' < μ x y) :: k) Q (st x y)) : ex P (.loop a) k Q s := by
 refine ex_loop1 (fun x : X × Y => st x.1 x.2) (fun x => I x.1 x.2) (fun x => μ x.1 x.2) (x0, y0) hI h0 (fun x hx => ?_)
 refine awp_mono a _ _ (fun e s h => ?_) _ (round x.1 x.2 hx)
 cases e with
 | nrm => obtain ⟨y, z, h⟩ := h; exact ⟨(y, z), h⟩
 | ret => exact h
 | ex id => exact h
theorem ex_loop3 {X Y Z : Type} (st : X → Y → Z → AS) (I : X → Y → Z → Prop) (μ : X → Y → Z → Nat) (x0 : X) (y0 : Y) (z0 : Z) {a : AC} (hI : I x0 y0 z0) (h0 : s = st x0 y0 z0)
  (round : ∀ x y z, I x y z → ex P a (.lp (fun s' => ∃ x' y' z', s' = st x' y' z' ∧ I x' y' z' ∧ μ x' y' z' < μ x y z) :: k) Q (st x y z)) : ex P (.loop a) k Q s := by
 refine ex_loop1 (fun x : X × Y × Z => st x.1 x.2.1 x.2.2) (fun x => I x.1 x.2.1 x.2.2) (fun x => μ x.1 x.2.1 x.2.2) (x0, y0, z0) hI h0 (fun x hx => ?_)
 refine awp_mono a _ _ (fun e s h => ?_) _ (round x.1 x.2.1 x.2.2 hx)
 cases e with
 | nrm => obtain ⟨y, z, t, h⟩ := h; exact ⟨(y, z, t), h⟩
 | ret => exact h
 | ex id => exact h
theorem ex_loop4 {X Y Z T : Type} (st : X → Y → Z → T → AS) (I : X → Y → Z → T → Prop) (μ : X → Y → Z → T → Nat) (x0 : X) (y0 : Y) (z0 : Z) (t0 : T) {a : AC} (hI : I x0 y0 z0 t0) (h0 : s = st x0 y0 z0 t0)
  (round : ∀ x y z t, I x y z t → ex P a (.lp (fun s' => ∃ x' y' z' t', s' = st x' y' z' t' ∧ I x' y' z' t' ∧ μ x' y' z' t' < μ x y z t) :: k) Q (st x y z t)) : ex P (.loop a) k Q s := by
 refine ex_loop1 (fun x : X × Y × Z × T => st x.1 x.2.1 x.2.2.1 x.2.2.2) (fun x => I x.1 x.2.1 x.2.2.1 x.2.2.2) (fun x => μ x.1 x.2.1 x.2.2.1 x.2.2.2) (x0, y0, z0, t0) hI h0 (fun x hx => ?_)
 refine awp_mono a _ _ (fun e s h => ?_) _ (round x.1 x.2.1 x.2.2.1 x.2.2.2 hx)
 cases e with
 | nrm => obtain ⟨y, z, t, r, h⟩ := h; exact ⟨(y, z, t, r), h⟩
 | ret => exact h
 | ex id => exact h
/-- A loop of at most n rounds. -/
def rnd (P : Program) (a : AC) (k : List KI) (Q : AX → AS → Prop) : Nat → AS → Prop
 | 0, _ => False
 | n + 1, s => ex P a (.lp (rnd P a k Q n) :: k) Q s
theorem rnd_succ {a : AC} {n : Nat} : rnd P a k Q (n + 1) s = ex P a (.lp (rnd P a k Q n) :: k) Q s := (rfl)
theorem ex_rnd (n : Nat) {a : AC} (h : rnd P a k Q n s) : ex P (.loop a) k Q s := by
 refine ⟨fun n s => rnd P a k Q n s, n, h, fun n s h => ?_⟩
 cases n with
 | zero => exact h.elim
 | succ n =>
  refine awp_mono a _ _ (fun e s h => ?_) _ h
  cases e with
  | nrm => exact ⟨n, Nat.lt_succ_self n, h⟩
  | ret => exact h
  | ex id => exact h
attribute [go_sem] rnd_succ
/-! ### the steps, by the shape of what they are handed -/
section
variable {P : Program} {Q : AX → AS → Prop} {s : AS} {d : Option Nat}
theorem ev_t {n : Nat} : s.ev (.t n) = s.tm n := (rfl)
theorem ev_v {x : Value} : s.ev (.v x) = ofV x := (rfl)
theorem ev_b {n : Nat} : s.ev (.b n) = strV (s.tm n) := (rfl)
theorem ev_s {n : Nat} : s.ev (.s n) = strS (s.tm n) := (rfl)
theorem strV_g {b : ByteArray} : strV (.one (.g (.string b))) = .one (.sl true 1 (strE b)) := (rfl)
theorem ev_f {n : FuncId} : s.ev (.f n) = .one (.fn n []) := (rfl)
theorem ofV_int {k : IntKind} {n : Int} : ofV (.int k n) = .one (.g (.int k n)) := (rfl)
theorem ofV_bool {b : Bool} : ofV (.bool b) = .one (.g (.bool b)) := (rfl)
theorem ofV_string {b : ByteArray} : ofV (.string b) = .one (.g (.string b)) := (rfl)
theorem ofV_slice {a : Option Addr} {n c : Nat} : ofV (.slice a n c) = .one (.g (.slice a n c)) := (rfl)
theorem ofV_ptr {a : Option Addr} : ofV (.pointer a) = .one (.g (.pointer a)) := (rfl)
theorem ofV_map {a : Option Nat} : ofV (.map a) = .one (.g (.map a)) := (rfl)
theorem ofV_nilF : ofV .nilFunc = .one (.g .nilFunc) := (rfl)
theorem ofV_nilI : ofV .nilIface = .one (.g .nilIface) := (rfl)
theorem put_some {k : Nat} {v : Val} : s.put (some k) v = { s with tm := upd s.tm k v } := (rfl)
theorem put_none {v : Val} : s.put none v = s := (rfl)
theorem fix_eq {g : Nat} {b : Bool} : s.fix g b = { s with tm := upd s.tm g (bv b) } := (rfl)
theorem e_mv {x : Opd} : estep d (.mv x) s = .ok (s.put d (s.ev x)) := (rfl)
def allocS (s : AS) (k : Nat) (zero : List Cel) : Option (List Cel) → SRes
 | none => if k = 0 then .bad else .ok { s with tm := upd s.tm k (.one (.bx k 0)), bx := upd s.bx k (some zero) }
 | some _ => .bad
theorem allocS_none {k : Nat} {z : List Cel} : allocS s k z none = if k = 0 then .bad else .ok { s with tm := upd s.tm k (.one (.bx k 0)), bx := upd s.bx k (some z) } := (rfl)
theorem e_alloc {k : Nat} {z : List Value} : estep (some k) (.alloc z) s = allocS s k (z.map .g) (s.bx k) := by unfold allocS; simp only [estep]; first | done | rfl
def boxS (s : AS) (k : Nat) : Option (List Cel) → SRes
 | some cs => allocS s k cs (s.bx k)
 | none => .bad
theorem boxS_some {k : Nat} {cs : List Cel} : boxS s k (some cs) = allocS s k cs (s.bx k) := (rfl)
def bldrS (s : AS) (k : Nat) (zero : List Cel) : Option (List Cel) → SRes
 | none => if k < 100000 then .ok { s with tm := upd s.tm k (.one (.bx (900000 + k) 0)), bx := upd s.bx (900000 + k) (some zero) } else .bad
 | some _ => .bad
theorem bldrS_none {k : Nat} {z : List Cel} : bldrS s k z none = if k < 100000 then .ok { s with tm := upd s.tm k (.one (.bx (900000 + k) 0)), bx := upd s.bx (900000 + k) (some z) } else .bad := (rfl)
theorem e_bld {k : Nat} {z : List Value} : estep (some k) (.bld z) s = bldrS s k (z.map .g) (s.bx (900000 + k)) := by unfold bldrS; simp only [estep]; first | done | rfl
theorem rg_bld {d : Option Nat} (z : List Value) : rg P (⟨d, none, .bld z⟩ :: l) kp k Q s = sg P (estep d (.bld z) s) l kp k Q := (rfl)
theorem bldK_hi {k : Nat} (h : 1000000 ≤ k) (h' : k < 1900000) : bldK k = false := by unfold bldK; rw [decide_eq_false (by omega), decide_eq_false (by omega)]; rfl
theorem e_box {k : Nat} {x : Opd} : estep (some k) (.box x) s = boxS s k (vcells (s.ev x)) := by
 unfold boxS allocS; simp only [estep]; cases vcells (s.ev x) <;> rfl
theorem vcells_one {c : Cel} : vcells (.one c) = some [c] := (rfl)
theorem vcells_ag {cs : List Cel} : vcells (.ag cs) = some cs := (rfl)
def bldS (acc : Option (List Cel)) (off n : Nat) (x : Option (List Cel)) : Option (List Cel) :=
 match acc, x with
 | some cs, some news => if news.length = n ∧ off + n ≤ cs.length then some (wr cs off news) else none
 | _, _ => none
theorem bldS_some {cs news : List Cel} {off n : Nat} : bldS (some cs) off n (some news) = if news.length = n ∧ off + n ≤ cs.length then some (wr cs off news) else none := (rfl)
def bldL (s : AS) : Option (List Cel) → List (Nat × Nat × Opd) → Option (List Cel)
 | acc, [] => acc
 | acc, p :: l => bldL s (bldS acc p.1 p.2.1 (vcells (s.ev p.2.2))) l
theorem bldL_nil {acc : Option (List Cel)} : bldL s acc [] = acc := (rfl)
theorem bldL_cons {acc : Option (List Cel)} {a b : Nat} {x : Opd} {l : List (Nat × Nat × Opd)} : bldL s acc ((a, b, x) :: l) = bldL s (bldS acc a b (vcells (s.ev x))) l := (rfl)
def agS (s : AS) (d : Option Nat) : Option (List Cel) → SRes
 | some cs => .ok (s.put d (.ag cs))
 | none => .bad
theorem agS_some {cs : List Cel} : agS s d (some cs) = .ok (s.put d (.ag cs)) := (rfl)
theorem e_build {z : List Value} {ps : List (Nat × Nat × Opd)} : estep d (.build z ps) s = agS s d (bldL s (some (z.map .g)) ps) := by
 have h : ∀ (ps : List (Nat × Nat × Opd)) (acc : Option (List Cel)), bldL s acc ps = ps.foldl (fun acc p => match acc, vcells (s.ev p.2.2) with
   | some cs, some news => if news.length = p.2.1 ∧ p.1 + p.2.1 ≤ cs.length then some (wr cs p.1 news) else none
   | _, _ => none) acc := by
  intro ps
  induction ps with
  | nil => intro acc; rfl
  | cons p ps ih => intro acc; simp only [bldL, List.foldl_cons, ih]; rfl
 unfold agS; rw [h]; rfl
def bslS (s : AS) (d : Option Nat) (z len n : Nat) : Option (List (List Cel)) → SRes
 | some es => if es.all (fun e => e.length = z && e.all Cel.isD) && n = len then .ok (s.put d (.one (.sl (frE es) z es))) else .bad
 | none => .bad
theorem bslS_some {z len n : Nat} {es : List (List Cel)} : bslS s d z len n (some es) = if es.all (fun e => e.length = z && e.all Cel.isD) && n = len then .ok (s.put d (.one (.sl (frE es) z es))) else .bad := (rfl)
def cellsL (s : AS) : List Opd → Option (List (List Cel))
 | [] => some []
 | x :: l => consL (vcells (s.ev x)) (cellsL s l)
where consL : Option (List Cel) → Option (List (List Cel)) → Option (List (List Cel))
 | some e, some es => some (e :: es)
 | _, _ => none
theorem cellsL_nil : cellsL s [] = some [] := (rfl)
theorem cellsL_cons {x : Opd} {l : List Opd} : cellsL s (x :: l) = cellsL.consL (vcells (s.ev x)) (cellsL s l) := (rfl)
theorem consL_some {e : List Cel} {es : List (List Cel)} : cellsL.consL (some e) (some es) = some (e :: es) := (rfl)
theorem e_bslice {z len : Nat} {ps : List Opd} : estep d (.bslice z len ps) s = bslS s d z len ps.length (cellsL s ps) := by
 have h : ∀ ps : List Opd, cellsL s ps = ps.mapM (fun p => vcells (s.ev p)) := by
  intro ps
  induction ps with
  | nil => rfl
  | cons p ps ih =>
   simp only [cellsL, ih, List.mapM_cons]
   cases vcells (s.ev p) <;> cases ps.mapM (fun p => vcells (s.ev p)) <;> rfl
 unfold bslS; rw [h]; rfl
def bsrM (s : AS) (j : Nat) (E : TypeId) (z len n : Nat) (es : List (List Cel)) : SRes :=
 match s.mvR es.flatten with
 | some (i, q) => if i ≠ j then bslRow (s.mvS i q) j E z len n (es.map (List.map (mvF i q))) else .bad
 | none => .bad
def bsrR (s : AS) (j : Nat) (E : TypeId) (z len n : Nat) (es : List (List Cel)) : Option Row → SRes
 | none => if es.all (fun e => e.length = z && e.all Cel.isD) && n = len && decide (j < XK) && decide (0 < z) then .ok { s with tm := upd s.tm j (.one (.ow j 0)), rw := upd s.rw j (some ⟨0, E, z, es⟩) } else bsrM s j E z len n es
 | some _ => .bad
def bsrS (s : AS) (j : Nat) (E : TypeId) (z len n : Nat) : Option (List (List Cel)) → SRes
 | some es => bsrR s j E z len n es (s.rw j)
 | none => .bad
theorem bsrS_some {j z len n : Nat} {E : TypeId} {es : List (List Cel)} : bsrS s j E z len n (some es) = bsrR s j E z len n es (s.rw j) := (rfl)
theorem bsrR_none {j z len n : Nat} {E : TypeId} {es : List (List Cel)} : bsrR s j E z len n es none = if es.all (fun e => e.length = z && e.all Cel.isD) && n = len && decide (j < XK) && decide (0 < z) then .ok { s with tm := upd s.tm j (.one (.ow j 0)), rw := upd s.rw j (some ⟨0, E, z, es⟩) } else bsrM s j E z len n es := (rfl)
theorem e_bslr {j z len : Nat} {E : TypeId} {ps : List Opd} : estep (some j) (.bslr E z len ps) s = bsrS s j E z len ps.length (cellsL s ps) := by
 have h : ∀ ps : List Opd, cellsL s ps = ps.mapM (fun p => vcells (s.ev p)) := by
  intro ps
  induction ps with
  | nil => rfl
  | cons p ps ih =>
   simp only [cellsL, ih, List.mapM_cons]
   cases vcells (s.ev p) <;> cases ps.mapM (fun p => vcells (s.ev p)) <;> rfl
 rw [h]
 simp only [estep]
 generalize (ps.mapM fun p => vcells (s.ev p)) = r
 cases r with
 | none => rfl
 | some es => rfl
def ldB (s : AS) (d : Option Nat) (agg : Bool) (n off : Nat) : Option (List Cel) → SRes
 | some cs => loadS s d agg n (cs.drop off)
 | none => .bad
theorem ldB_some {agg : Bool} {n off : Nat} {cs : List Cel} : ldB s d agg n off (some cs) = loadS s d agg n (cs.drop off) := (rfl)
def ldE (s : AS) (d : Option Nat) (agg : Bool) (n off : Nat) : Option (List Cel) → SRes
 | some e => loadS s d agg n (e.drop off)
 | none => .bad
theorem ldE_some {agg : Bool} {n off : Nat} {e : List Cel} : ldE s d agg n off (some e) = loadS s d agg n (e.drop off) := (rfl)
def ldR (s : AS) (d : Option Nat) (agg : Bool) (n ver i off : Nat) : Option Row → SRes
 | some r => if ver = r.ver then ldE s d agg n off r.es[i]? else .bad
 | none => .bad
theorem ldR_some {agg : Bool} {n ver i off v : Nat} {E : TypeId} {z : Nat} {es : List (List Cel)} : ldR s d agg n ver i off (some ⟨v, E, z, es⟩) = if ver = v then ldE s d agg n off es[i]? else .bad := (rfl)
def ldS (s : AS) (d : Option Nat) (agg : Bool) (n : Nat) : Val → SRes
 | .one (.bx k off) => ldB s d agg n off (s.bx k)
 | .one (.ep cs) => loadS s d agg n (cs.map Cel.dat)
 | .one (.op k ver i off) => ldR s d agg n ver i off (s.rw k)
 | _ => .bad
theorem ldS_bx {agg : Bool} {n k off : Nat} : ldS s d agg n (.one (.bx k off)) = ldB s d agg n off (s.bx k) := (rfl)
theorem ldS_ep {agg : Bool} {n : Nat} {cs : List Cel} : ldS s d agg n (.one (.ep cs)) = loadS s d agg n (cs.map Cel.dat) := (rfl)
theorem ldS_op {agg : Bool} {n k ver i off : Nat} : ldS s d agg n (.one (.op k ver i off)) = ldR s d agg n ver i off (s.rw k) := (rfl)
theorem e_load {agg : Bool} {n : Nat} {x : Opd} : estep d (.load agg n x) s = ldS s d agg n (s.ev x) := by
 unfold ldS ldB ldR ldE; simp only [estep]; first | done | rfl
theorem loadS_true {n : Nat} {cs : List Cel} : loadS s d true n cs = .need (n ≤ cs.length) (s.put d (.ag (cs.take n))) := (rfl)
theorem loadS_false {n : Nat} {c : Cel} {cs : List Cel} : loadS s d false n (c :: cs) = .ok (s.put d (.one c)) := (rfl)
theorem dat_g {v : Value} : (Cel.g v).dat = .g v := (rfl)
theorem dat_sl {fr : Bool} {z : Nat} {es : List (List Cel)} : (Cel.sl fr z es).dat = .sl false z es := (rfl)
theorem dat_any : Cel.any.dat = .any := (rfl)
def stB (s : AS) (d : Option Nat) (n k off : Nat) (news : List Cel) : Option (List Cel) → SRes
 | some cs => if news.length = n then .need (off + n ≤ cs.length) ({ s with bx := upd s.bx k (some (wr cs off news)) }.put d .any) else .bad
 | none => .bad
theorem stB_some {n k off : Nat} {cs news : List Cel} : stB s d n k off news (some cs) = if news.length = n then .need (off + n ≤ cs.length) ({ s with bx := upd s.bx k (some (wr cs off news)) }.put d .any) else .bad := (rfl)
def stE (s : AS) (d : Option Nat) (n k i off : Nat) (news : List Cel) (r : Row) : Option (List Cel) → SRes
 | some e => .need (off + n ≤ e.length) ({ s with rw := upd s.rw k (some { r with es := r.es.set i (wr e off news) }) }.put d .any)
 | none => .bad
theorem stE_some {n k i off : Nat} {e news : List Cel} {r : Row} : stE s d n k i off news r (some e) = .need (off + n ≤ e.length) ({ s with rw := upd s.rw k (some { r with es := r.es.set i (wr e off news) }) }.put d .any) := (rfl)
def stM (s : AS) (d : Option Nat) (n k ver i off : Nat) (news : List Cel) (r : Row) : SRes :=
 match s.mvR news with
 | some (j, q) => if j ≠ k then stRow (s.mvS j q) d n k ver i off (news.map (mvF j q)) r else .bad
 | none => .bad
def stR (s : AS) (d : Option Nat) (n k ver i off : Nat) (news : List Cel) : Option Row → SRes
 | some r => if ver = r.ver && news.length = n && news.all Cel.isD then stE s d n k i off news r r.es[i]? else stM s d n k ver i off news r
 | none => .bad
theorem stR_some {n k ver i off : Nat} {news : List Cel} {v : Nat} {E : TypeId} {z : Nat} {es : List (List Cel)} : stR s d n k ver i off news (some ⟨v, E, z, es⟩) = if ver = v && news.length = n && news.all Cel.isD then stE s d n k i off news ⟨v, E, z, es⟩ es[i]? else stM s d n k ver i off news ⟨v, E, z, es⟩ := (rfl)
def stS (s : AS) (d : Option Nat) (n : Nat) : Val → Option (List Cel) → SRes
 | .one (.bx k off), some news => stB s d n k off news (s.bx k)
 | .one (.op k ver i off), some news => stR s d n k ver i off news (s.rw k)
 | _, _ => .bad
theorem stS_bx {n k off : Nat} {news : List Cel} : stS s d n (.one (.bx k off)) (some news) = stB s d n k off news (s.bx k) := (rfl)
theorem stS_op {n k ver i off : Nat} {news : List Cel} : stS s d n (.one (.op k ver i off)) (some news) = stR s d n k ver i off news (s.rw k) := (rfl)
theorem e_store {n : Nat} {x v : Opd} : estep d (.store n x v) s = stS s d n (s.ev x) (vcells (s.ev v)) := by
 unfold stS stB stR stE stM; simp only [estep]; first | done | rfl
def nlR (s : AS) (d : Option Nat) (k ver i off : Nat) : Option Row → SRes
 | some r => if ver = r.ver then .ok (s.put d (.one (.op k ver i off))) else .bad
 | none => .bad
theorem nlR_some {k ver i off v : Nat} {E : TypeId} {z : Nat} {es : List (List Cel)} : nlR s d k ver i off (some ⟨v, E, z, es⟩) = if ver = v then .ok (s.put d (.one (.op k ver i off))) else .bad := (rfl)
def nlS (s : AS) (d : Option Nat) : Val → SRes
 | .one (.bx k off) => .ok (s.put d (.one (.bx k off)))
 | .one (.ep cs) => .ok (s.put d (.one (.ep cs)))
 | .one (.op k ver i off) => nlR s d k ver i off (s.rw k)
 | _ => .bad
theorem nlS_bx {k off : Nat} : nlS s d (.one (.bx k off)) = .ok (s.put d (.one (.bx k off))) := (rfl)
theorem nlS_ep {cs : List Cel} : nlS s d (.one (.ep cs)) = .ok (s.put d (.one (.ep cs))) := (rfl)
theorem nlS_op {k ver i off : Nat} : nlS s d (.one (.op k ver i off)) = nlR s d k ver i off (s.rw k) := (rfl)
def eqS (s : AS) (d : Option Nat) (neg : Bool) : Option Bool → SRes
 | some b => .ok (s.put d (bv (if neg then !b else b)))
 | none => .bad
theorem eqS_t {b : Bool} : eqS s d true (some b) = .ok (s.put d (.one (.g (.bool (!b))))) := by simp [eqS, bv]
theorem eqS_f {b : Bool} : eqS s d false (some b) = .ok (s.put d (.one (.g (.bool b)))) := by simp [eqS, bv]
theorem e_eqs {neg agg : Bool} {ks : List KTy} {x y : Opd} : estep d (.eqs neg agg ks x y) s = eqS s d neg (eqV agg ks (s.ev x) (s.ev y)) := by
 unfold eqS; simp only [estep]; first | done | rfl
theorem eqV_ag {ks : List KTy} {cs ds : List Cel} : eqV true ks (.ag cs) (.ag ds) = eqL ks cs ds := (rfl)
theorem eqV_one {ks : List KTy} {c e : Cel} : eqV false ks (.one c) (.one e) = eqL ks [c] [e] := (rfl)
theorem eqL_nil : eqL [] [] [] = some true := (rfl)
def andO : Option Bool → Option Bool → Option Bool
 | some a, some b => some (a && b)
 | _, _ => none
theorem andO_some {a b : Bool} : andO (some a) (some b) = some (a && b) := (rfl)
theorem eqL_cons {k : KTy} {ks : List KTy} {c e : Cel} {cs ds : List Cel} : eqL (k :: ks) (c :: cs) (e :: ds) = andO (eqK k c e) (eqL ks cs ds) := (rfl)
theorem eqK_i {k : IntKind} {a b : Int} : eqK (.i k) (.g (.int k a)) (.g (.int k b)) = some (decide (a = b)) := by simp [eqK]
theorem eqK_b {a b : Bool} : eqK .b (.g (.bool a)) (.g (.bool b)) = some (decide (a = b)) := (rfl)
theorem eqK_s {a b : ByteArray} : eqK .s (.g (.string a)) (.g (.string b)) = some (a.toList == b.toList) := (rfl)
theorem eqK_nsc {fr : Bool} {z n c : Nat} {e : List Cel} {es : List (List Cel)} : eqK .ns (.sl fr z (e :: es)) (.g (.slice none n c)) = some false := (rfl)
theorem eqK_nsn {n c n' c' : Nat} : eqK .ns (.g (.slice none n' c')) (.g (.slice none n c)) = some true := (rfl)
theorem eqK_npb {k off : Nat} : eqK .np (.bx k off) (.g (.pointer none)) = some false := (rfl)
theorem eqK_npe {cs : List Cel} : eqK .np (.ep cs) (.g (.pointer none)) = some false := (rfl)
theorem eqK_npn : eqK .np (.g (.pointer none)) (.g (.pointer none)) = some true := (rfl)
theorem eqK_nin : eqK .ni (.g .nilIface) (.g .nilIface) = some true := (rfl)
theorem eqK_nii {t : TypeId} {v : Value} : eqK .ni (.g (.iface t v)) (.g .nilIface) = some false := (rfl)
theorem e_nilchk {x : Opd} : estep d (.nilchk x) s = nlS s d (s.ev x) := by unfold nlS nlR; simp only [estep]; first | done | rfl
theorem e_bin {op : BinOp} {x y : Opd} : estep d (.bin op x y) s = binS s d op (s.ev x) (s.ev y) := (rfl)
section
variable {k : IntKind} {a b : Int}
theorem bin_add : binS s d .add (.one (.g (.int k a))) (.one (.g (.int k b))) = .ok (s.put d (.one (.g (.int k (k.wrap (a + b)))))) := by simp [binS, ki]
theorem bin_sub : binS s d .sub (.one (.g (.int k a))) (.one (.g (.int k b))) = .ok (s.put d (.one (.g (.int k (k.wrap (a - b)))))) := by simp [binS, ki]
theorem bin_mul : binS s d .mul (.one (.g (.int k a))) (.one (.g (.int k b))) = .ok (s.put d (.one (.g (.int k (k.wrap (a * b)))))) := by simp [binS, ki]
theorem bin_quo : binS s d .quo (.one (.g (.int k a))) (.one (.g (.int k b))) = .need (b ≠ 0) (s.put d (.one (.g (.int k (k.wrap (a.tdiv b)))))) := by simp [binS, ki]
theorem bin_rem : binS s d .rem (.one (.g (.int k a))) (.one (.g (.int k b))) = .need (b ≠ 0) (s.put d (.one (.g (.int k (a.tmod b))))) := by simp [binS, ki]
theorem bin_eql : binS s d .eql (.one (.g (.int k a))) (.one (.g (.int k b))) = .ok (s.put d (.one (.g (.bool (decide (a = b)))))) := by
 simp only [binS, bv, if_true]; congr 4
theorem bin_neq : binS s d .neq (.one (.g (.int k a))) (.one (.g (.int k b))) = .ok (s.put d (.one (.g (.bool (decide (a ≠ b)))))) := by
 simp only [binS, bv, if_true]; congr 4; by_cases h : a = b <;> simp [h]
theorem bin_lss : binS s d .lss (.one (.g (.int k a))) (.one (.g (.int k b))) = .ok (s.put d (.one (.g (.bool (decide (a < b)))))) := by simp [binS, bv]
theorem bin_leq : binS s d .leq (.one (.g (.int k a))) (.one (.g (.int k b))) = .ok (s.put d (.one (.g (.bool (decide (a ≤ b)))))) := by simp [binS, bv]
theorem bin_gtr : binS s d .gtr (.one (.g (.int k a))) (.one (.g (.int k b))) = .ok (s.put d (.one (.g (.bool (decide (b < a)))))) := by simp [binS, bv]
theorem bin_geq : binS s d .geq (.one (.g (.int k a))) (.one (.g (.int k b))) = .ok (s.put d (.one (.g (.bool (decide (b ≤ a)))))) := by simp [binS, bv]
theorem bin_and : binS s d .and (.one (.g (.int k a))) (.one (.g (.int k b))) = .ok (s.put d (.one (.g (.int k (bits .and k a b))))) := by simp [binS, ki]
theorem bin_or : binS s d .or (.one (.g (.int k a))) (.one (.g (.int k b))) = .ok (s.put d (.one (.g (.int k (bits .or k a b))))) := by simp [binS, ki]
theorem bin_xor : binS s d .xor (.one (.g (.int k a))) (.one (.g (.int k b))) = .ok (s.put d (.one (.g (.int k (bits .xor k a b))))) := by simp [binS, ki]
theorem bin_shr {k' : IntKind} : binS s d .shr (.one (.g (.int k a))) (.one (.g (.int k' b))) = .need (0 ≤ b) (s.put d (.one (.g (.int k (a.fdiv (2 ^ (min b.toNat k.bits))))))) := by cases k <;> cases k' <;> rfl
theorem bin_shl {k' : IntKind} : binS s d .shl (.one (.g (.int k a))) (.one (.g (.int k' b))) = .need (0 ≤ b) (s.put d (.one (.g (.int k (k.wrap (a * 2 ^ (min b.toNat k.bits))))))) := by cases k <;> cases k' <;> rfl
end
section
variable {a b : ByteArray}
theorem bins_add : binS s d .add (.one (.g (.string a))) (.one (.g (.string b))) = .need (((a.size + b.size : Nat) : Int) ≤ 9223372036854775807) (s.put d (.one (.g (.string (a ++ b))))) := (rfl)
theorem bins_eql : binS s d .eql (.one (.g (.string a))) (.one (.g (.string b))) = .ok (s.put d (.one (.g (.bool (a.toList == b.toList))))) := (rfl)
theorem bins_neq : binS s d .neq (.one (.g (.string a))) (.one (.g (.string b))) = .ok (s.put d (.one (.g (.bool (!(a.toList == b.toList)))))) := (rfl)
theorem bins_lss : binS s d .lss (.one (.g (.string a))) (.one (.g (.string b))) = .ok (s.put d (.one (.g (.bool (Op.bytesLess a.toList b.toList))))) := (rfl)
theorem bins_leq : binS s d .leq (.one (.g (.string a))) (.one (.g (.string b))) = .ok (s.put d (.one (.g (.bool (Op.bytesLess a.toList b.toList || a.toList == b.toList))))) := (rfl)
theorem bins_gtr : binS s d .gtr (.one (.g (.string a))) (.one (.g (.string b))) = .ok (s.put d (.one (.g (.bool (!(Op.bytesLess a.toList b.toList || a.toList == b.toList)))))) := (rfl)
theorem bins_geq : binS s d .geq (.one (.g (.string a))) (.one (.g (.string b))) = .ok (s.put d (.one (.g (.bool (!Op.bytesLess a.toList b.toList))))) := (rfl)
end
def unS (s : AS) (d : Option Nat) (op : UnOp) (v : Val) : SRes :=
 match op, v with
 | .not, .one (.g (.bool b)) => .ok (s.put d (bv (!b)))
 | .neg, .one (.g (.int k a)) => .ok (s.put d (ki k (k.wrap (0 - a))))
 | _, _ => .bad
theorem e_un {op : UnOp} {x : Opd} : estep d (.un op x) s = unS s d op (s.ev x) := by unfold unS; simp only [estep]; first | done | rfl
theorem un_not {b : Bool} : unS s d .not (.one (.g (.bool b))) = .ok (s.put d (.one (.g (.bool (!b))))) := (rfl)
theorem un_neg {k : IntKind} {a : Int} : unS s d .neg (.one (.g (.int k a))) = .ok (s.put d (.one (.g (.int k (k.wrap (0 - a)))))) := (rfl)
def cvS (s : AS) (d : Option Nat) (k : IntKind) : Val → SRes
 | .one (.g (.int _ a)) => .ok (s.put d (ki k (k.wrap a)))
 | _ => .bad
def chS (s : AS) (d : Option Nat) : Val → SRes
 | .one (.g (.int _ n)) => .ok (s.put d (sv (Utf8.encode n)))
 | _ => .bad
theorem chS_i {k : IntKind} {n : Int} : chS s d (ki k n) = .ok (s.put d (sv (Utf8.encode n))) := (rfl)
theorem e_chr {x : Opd} : estep d (.chr x) s = chS s d (s.ev x) := by unfold chS; simp only [estep]; first | done | rfl
theorem rg_chr {d : Option Nat} (x : Opd) : rg P (⟨d, none, .chr x⟩ :: l) kp k Q s = sg P (estep d (.chr x) s) l kp k Q := (rfl)
theorem e_conv {k : IntKind} {x : Opd} : estep d (.conv k x) s = cvS s d k (s.ev x) := by unfold cvS; simp only [estep]; first | done | rfl
theorem cvS_int {k k' : IntKind} {a : Int} : cvS s d k (.one (.g (.int k' a))) = .ok (s.put d (.one (.g (.int k (k.wrap a))))) := (rfl)
def capL (s : AS) : List Opd → Option (List Cel)
 | [] => some []
 | x :: l => consC (s.ev x) (capL s l)
where consC : Val → Option (List Cel) → Option (List Cel)
 | .one (.bx k off), some cs => some (.bx k off :: cs)
 | .one (.g v), some cs => some (.g v :: cs)
 | .one (.ep ds), some cs => some (.ep ds :: cs)
 | _, _ => none
theorem capL_nil : capL s [] = some [] := (rfl)
theorem capL_cons {x : Opd} {l : List Opd} : capL s (x :: l) = capL.consC (s.ev x) (capL s l) := (rfl)
theorem consC_bx {k off : Nat} {cs : List Cel} : capL.consC (.one (.bx k off)) (some cs) = some (.bx k off :: cs) := (rfl)
theorem consC_ep {ds cs : List Cel} : capL.consC (.one (.ep ds)) (some cs) = some (.ep ds :: cs) := (rfl)
theorem consC_g {v : Value} {cs : List Cel} : capL.consC (.one (.g v)) (some cs) = some (.g v :: cs) := (rfl)
def mkS (s : AS) (d : Option Nat) (f : FuncId) : Option (List Cel) → SRes
 | some cs => .ok (s.put d (.one (fnC f cs)))
 | none => .bad
theorem mkS_some {f : FuncId} {cs : List Cel} : mkS s d f (some cs) = .ok (s.put d (.one (fnC f cs))) := (rfl)
theorem fnC_fn {f : FuncId} {cs : List Cel} (h : f < 1000000) : fnC f cs = .fn f cs := if_pos h
theorem fnC_mv {f : FuncId} {cs : List Cel} (h : 1000000 ≤ f) : fnC f cs = .mv (f - 1000000) cs := if_neg (Nat.not_lt.2 h)
theorem e_mkfn {f : FuncId} {xs : List Opd} : estep d (.mkfn f xs) s = mkS s d f (capL s xs) := by
 have h : ∀ ps : List Opd, capL s ps = ps.mapM (fun p => match s.ev p with | .one (.bx k off) => some (Cel.bx k off) | .one (.g v) => some (Cel.g v) | .one (.ep cs) => some (Cel.ep cs) | _ => none) := by
  intro ps
  induction ps with
  | nil => rfl
  | cons p ps ih =>
   simp only [capL, ih, List.mapM_cons]
   generalize s.ev p = v
   generalize (ps.mapM (m := Option) _) = r
   cases v <;> try (cases r <;> rfl)
   rename_i c; cases c <;> cases r <;> rfl
 unfold mkS; rw [h]; rfl
def wsR (s : AS) (d : Option Nat) (z k ver : Nat) (l h : Int) : Option Row → SRes
 | some r => if ver = r.ver ∧ z = r.z then .need (0 ≤ l ∧ l ≤ h ∧ h ≤ r.es.length ∧ 0 < r.es.length) (s.put d (.one (.ws k ver l.toNat h.toNat))) else .bad
 | none => .bad
def slS (s : AS) (d : Option Nat) (z : Nat) (x : Val) (lo hi : Option Val) : SRes :=
 match x, lo, hi with
 | .one (.sl fr z' es), none, none => if z = z' then .ok (s.put d (.one (.sl fr z es))) else .bad
 | .one (.sl fr z' es), some (.one (.g (.int _ l))), none => if z = z' then .need (0 ≤ l ∧ l ≤ es.length) (s.put d (.one (.sl fr z (es.drop l.toNat)))) else .bad
 | .one (.sl fr z' es), none, some (.one (.g (.int _ h))) => if z = z' then .need (0 ≤ h ∧ h ≤ es.length) (s.put d (.one (.sl fr z (es.take h.toNat)))) else .bad
 | .one (.sl fr z' es), some (.one (.g (.int _ l))), some (.one (.g (.int _ h))) => if z = z' then .need (0 ≤ l ∧ l ≤ h ∧ h ≤ es.length) (s.put d (.one (.sl fr z ((es.take h.toNat).drop l.toNat)))) else .bad
 | .one (.ow k ver), some (.one (.g (.int _ l))), some (.one (.g (.int _ h))) => wsR s d z k ver l h (s.rw k)
 | _, _, _ => .bad
theorem wsR_some {z k ver v : Nat} {l h : Int} {E : TypeId} {es : List (List Cel)} : wsR s d z k ver l h (some ⟨v, E, z, es⟩) = if ver = v then .need (0 ≤ l ∧ l ≤ h ∧ h ≤ es.length ∧ 0 < es.length) (s.put d (.one (.ws k ver l.toNat h.toNat))) else .bad := by simp [wsR]
theorem e_slc {z : Nat} {x : Opd} {lo hi : Option Opd} : estep d (.slc z x lo hi) s = slS s d z (s.ev x) (lo.map s.ev) (hi.map s.ev) := by unfold slS wsR; simp only [estep]; first | done | rfl
section
variable {fr : Bool} {z : Nat} {es : List (List Cel)} {k k' : IntKind} {l h : Int}
theorem slS_nn : slS s d z (.one (.sl fr z es)) none none = .ok (s.put d (.one (.sl fr z es))) := by simp [slS]
theorem slS_ln : slS s d z (.one (.sl fr z es)) (some (.one (.g (.int k l)))) none = .need (0 ≤ l ∧ l ≤ es.length) (s.put d (.one (.sl fr z (es.drop l.toNat)))) := by simp [slS]
theorem slS_nh : slS s d z (.one (.sl fr z es)) none (some (.one (.g (.int k h)))) = .need (0 ≤ h ∧ h ≤ es.length) (s.put d (.one (.sl fr z (es.take h.toNat)))) := by simp [slS]
theorem slS_ow {j ver : Nat} : slS s d z (.one (.ow j ver)) (some (.one (.g (.int k l)))) (some (.one (.g (.int k' h)))) = wsR s d z j ver l h (s.rw j) := (rfl)
theorem slS_lh : slS s d z (.one (.sl fr z es)) (some (.one (.g (.int k l)))) (some (.one (.g (.int k' h)))) = .need (0 ≤ l ∧ l ≤ h ∧ h ≤ es.length) (s.put d (.one (.sl fr z ((es.take h.toNat).drop l.toNat)))) := by simp [slS]
end
def faR (s : AS) (d : Option Nat) (off k ver i o : Nat) : Option Row → SRes
 | some r => if ver = r.ver then .ok (s.put d (.one (.op k ver i (o + off)))) else .bad
 | none => .bad
theorem faR_some {off k ver i o v : Nat} {E : TypeId} {z : Nat} {es : List (List Cel)} : faR s d off k ver i o (some ⟨v, E, z, es⟩) = if ver = v then .ok (s.put d (.one (.op k ver i (o + off)))) else .bad := (rfl)
def faS (s : AS) (d : Option Nat) (off : Nat) : Val → SRes
 | .one (.bx k o) => .ok (s.put d (.one (.bx k (o + off))))
 | .one (.ep cs) => .ok (s.put d (.one (.ep (cs.drop off))))
 | .one (.op k ver i o) => faR s d off k ver i o (s.rw k)
 | _ => .bad
theorem faS_bx {off k o : Nat} : faS s d off (.one (.bx k o)) = .ok (s.put d (.one (.bx k (o + off)))) := (rfl)
theorem faS_ep {off : Nat} {cs : List Cel} : faS s d off (.one (.ep cs)) = .ok (s.put d (.one (.ep (cs.drop off)))) := (rfl)
theorem faS_op {off k ver i o : Nat} : faS s d off (.one (.op k ver i o)) = faR s d off k ver i o (s.rw k) := (rfl)
theorem e_fadr {off : Nat} {x : Opd} : estep d (.fadr off x) s = faS s d off (s.ev x) := by unfold faS faR; simp only [estep]; first | done | rfl
def flS (s : AS) (d : Option Nat) (off : Nat) (agg : Bool) (n : Nat) : Val → SRes
 | .ag cs => match agg with
  | true => .need (off + n ≤ cs.length) (s.put d (.ag ((cs.drop off).take n)))
  | false => flC s d cs[off]?
 | _ => .bad
where flC (s : AS) (d : Option Nat) : Option Cel → SRes
 | some c => .ok (s.put d (.one c))
 | none => .bad
theorem flC_some {c : Cel} : flS.flC s d (some c) = .ok (s.put d (.one c)) := (rfl)
theorem flS_true {off n : Nat} {cs : List Cel} : flS s d off true n (.ag cs) = .need (off + n ≤ cs.length) (s.put d (.ag ((cs.drop off).take n))) := (rfl)
theorem flS_false {off n : Nat} {cs : List Cel} : flS s d off false n (.ag cs) = flS.flC s d cs[off]? := (rfl)
theorem e_fld {off : Nat} {agg : Bool} {n : Nat} {x : Opd} : estep d (.fld off agg n x) s = flS s d off agg n (s.ev x) := by
 unfold flS flS.flC; simp only [estep]; cases agg <;> simp only [Bool.false_eq_true, if_false, if_true] <;> rfl
def iaR (s : AS) (d : Option Nat) (z k ver : Nat) (n : Int) : Option Row → SRes
 | some r => if ver = r.ver ∧ z = r.z then .need (0 ≤ n ∧ n < r.es.length) (s.put d (.one (.op k ver n.toNat 0))) else .bad
 | none => .bad
theorem iaR_some {z k ver v z' : Nat} {n : Int} {E : TypeId} {es : List (List Cel)} : iaR s d z k ver n (some ⟨v, E, z', es⟩) = if ver = v ∧ z = z' then .need (0 ≤ n ∧ n < es.length) (s.put d (.one (.op k ver n.toNat 0))) else .bad := (rfl)
def iaQ (s : AS) (d : Option Nat) (z k ver lo : Nat) (n : Int) : Option Row → SRes
 | some r => if ver = r.ver ∧ z = r.z then .need (0 ≤ n ∧ lo + n < r.es.length) (s.put d (.one (.op k ver (lo + n.toNat) 0))) else .bad
 | none => .bad
theorem iaQ_some {z k ver lo v z' : Nat} {n : Int} {E : TypeId} {es : List (List Cel)} : iaQ s d z k ver lo n (some ⟨v, E, z', es⟩) = if ver = v ∧ z = z' then .need (0 ≤ n ∧ lo + n < es.length) (s.put d (.one (.op k ver (lo + n.toNat) 0))) else .bad := (rfl)
def iaS (s : AS) (d : Option Nat) (z : Nat) : Val → Val → SRes
 | .one (.sl _ z' es), .one (.g (.int _ n)) => if z = z' then .need (0 ≤ n ∧ n < es.length) (s.put d (.one (.ep (es.getD n.toNat [])))) else .bad
 | .one (.ow k ver), .one (.g (.int _ n)) => iaR s d z k ver n (s.rw k)
 | .one (.os k ver lo), .one (.g (.int _ n)) => iaQ s d z k ver lo n (s.rw k)
 | _, _ => .bad
theorem iaS_sl {fr : Bool} {z : Nat} {es : List (List Cel)} {k : IntKind} {n : Int} : iaS s d z (.one (.sl fr z es)) (.one (.g (.int k n))) = .need (0 ≤ n ∧ n < es.length) (s.put d (.one (.ep (es.getD n.toNat [])))) := by simp [iaS]
theorem iaS_ow {z j ver : Nat} {k : IntKind} {n : Int} : iaS s d z (.one (.ow j ver)) (.one (.g (.int k n))) = iaR s d z j ver n (s.rw j) := (rfl)
theorem iaS_os {z j ver lo : Nat} {k : IntKind} {n : Int} : iaS s d z (.one (.os j ver lo)) (.one (.g (.int k n))) = iaQ s d z j ver lo n (s.rw j) := (rfl)
theorem e_iadr {z : Nat} {x i : Opd} : estep d (.iadr z x i) s = iaS s d z (s.ev x) (s.ev i) := by unfold iaS iaR iaQ; simp only [estep]; first | done | rfl
def aaS (s : AS) (d : Option Nat) (n z : Nat) : Val → Val → SRes
 | .one (.bx k o), .one (.g (.int _ m)) => .need (0 ≤ m ∧ m < n) (s.put d (.one (.bx k (o + m.toNat * z))))
 | .one (.ep cs), .one (.g (.int _ m)) => .need (0 ≤ m ∧ m < n) (s.put d (.one (.ep (cs.drop (m.toNat * z)))))
 | _, _ => .bad
theorem aaS_bx {n z j o : Nat} {k : IntKind} {m : Int} : aaS s d n z (.one (.bx j o)) (.one (.g (.int k m))) = .need (0 ≤ m ∧ m < n) (s.put d (.one (.bx j (o + m.toNat * z)))) := (rfl)
theorem aaS_ep {n z : Nat} {cs : List Cel} {k : IntKind} {m : Int} : aaS s d n z (.one (.ep cs)) (.one (.g (.int k m))) = .need (0 ≤ m ∧ m < n) (s.put d (.one (.ep (cs.drop (m.toNat * z))))) := (rfl)
theorem e_aadr {n z : Nat} {x i : Opd} : estep d (.aadr n z x i) s = aaS s d n z (s.ev x) (s.ev i) := by unfold aaS; simp only [estep]; first | done | rfl
def ssS (s : AS) (d : Option Nat) (x : Val) (lo hi : Option Val) : SRes :=
 match x, lo, hi with
 | .one (.g (.string b)), none, none => .ok (s.put d (sv b))
 | .one (.g (.string b)), some (.one (.g (.int _ l))), none => .need (0 ≤ l ∧ l ≤ b.size) (s.put d (sv (b.extract l.toNat b.size)))
 | .one (.g (.string b)), none, some (.one (.g (.int _ h))) => .need (0 ≤ h ∧ h ≤ b.size) (s.put d (sv (b.extract 0 h.toNat)))
 | .one (.g (.string b)), some (.one (.g (.int _ l))), some (.one (.g (.int _ h))) => .need (0 ≤ l ∧ l ≤ h ∧ h ≤ b.size) (s.put d (sv (b.extract l.toNat h.toNat)))
 | _, _, _ => .bad
theorem e_ssub {x : Opd} {lo hi : Option Opd} : estep d (.ssub x lo hi) s = ssS s d (s.ev x) (lo.map s.ev) (hi.map s.ev) := by unfold ssS; simp only [estep]; first | done | rfl
section
variable {b : ByteArray} {k k' : IntKind} {l h : Int}
theorem ssS_nn : ssS s d (.one (.g (.string b))) none none = .ok (s.put d (.one (.g (.string b)))) := (rfl)
theorem ssS_ln : ssS s d (.one (.g (.string b))) (some (.one (.g (.int k l)))) none = .need (0 ≤ l ∧ l ≤ b.size) (s.put d (.one (.g (.string (b.extract l.toNat b.size))))) := (rfl)
theorem ssS_nh : ssS s d (.one (.g (.string b))) none (some (.one (.g (.int k h)))) = .need (0 ≤ h ∧ h ≤ b.size) (s.put d (.one (.g (.string (b.extract 0 h.toNat))))) := (rfl)
theorem ssS_lh : ssS s d (.one (.g (.string b))) (some (.one (.g (.int k l)))) (some (.one (.g (.int k' h)))) = .need (0 ≤ l ∧ l ≤ h ∧ h ≤ b.size) (s.put d (.one (.g (.string (b.extract l.toNat h.toNat))))) := (rfl)
end
def ixS (s : AS) (d : Option Nat) : Val → Val → SRes
 | .one (.g (.string b)), .one (.g (.int _ n)) => .need (0 ≤ n ∧ n < b.size) (s.put d (ki .u8 ((b.data.toList.getD n.toNat 0).toNat)))
 | _, _ => .bad
theorem e_idx {x i : Opd} : estep d (.idx x i) s = ixS s d (s.ev x) (s.ev i) := by unfold ixS; simp only [estep]; first | done | rfl
theorem ixS_s {b : ByteArray} {k : IntKind} {n : Int} : ixS s d (.one (.g (.string b))) (.one (.g (.int k n))) = .need (0 ≤ n ∧ n < b.size) (s.put d (.one (.g (.int .u8 ((b.data.toList.getD n.toNat 0).toNat))))) := (rfl)
def exS (s : AS) (d : Option Nat) (i : Nat) : Val → SRes
 | .tu vs => exV s d vs[i]?
 | _ => .bad
where exV (s : AS) (d : Option Nat) : Option Val → SRes
 | some v => .ok (s.put d v)
 | none => .bad
theorem e_extr {x : Opd} {i : Nat} : estep d (.extr x i) s = exS s d i (s.ev x) := by unfold exS exS.exV; simp only [estep]; first | done | rfl
theorem exS_tu {i : Nat} {vs : List Val} : exS s d i (.tu vs) = exS.exV s d vs[i]? := (rfl)
theorem exV_some {v : Val} : exS.exV s d (some v) = .ok (s.put d v) := (rfl)
def lnR (s : AS) (d : Option Nat) (ver : Nat) : Option Row → SRes
 | some r => if ver = r.ver then .ok (s.put d (iv r.es.length)) else .bad
 | none => .bad
theorem lnR_some {ver v z : Nat} {E : TypeId} {es : List (List Cel)} : lnR s d ver (some ⟨v, E, z, es⟩) = if ver = v then .ok (s.put d (.one (.g (.int .i64 es.length)))) else .bad := (rfl)
def lnQ (s : AS) (d : Option Nat) (ver lo : Nat) : Option Row → SRes
 | some r => if ver = r.ver then .ok (s.put d (iv (r.es.length - lo))) else .bad
 | none => .bad
theorem lnQ_some {ver lo v z : Nat} {E : TypeId} {es : List (List Cel)} : lnQ s d ver lo (some ⟨v, E, z, es⟩) = if ver = v then .ok (s.put d (.one (.g (.int .i64 (es.length - lo))))) else .bad := (rfl)
def lnS (s : AS) (d : Option Nat) : Val → SRes
 | .one (.sl _ _ es) => .ok (s.put d (iv es.length))
 | .one (.g (.slice _ n _)) => .ok (s.put d (iv n))
 | .one (.ow k ver) => lnR s d ver (s.rw k)
 | .one (.os k ver lo) => lnQ s d ver lo (s.rw k)
 | _ => .bad
theorem lnS_os {k ver lo : Nat} : lnS s d (.one (.os k ver lo)) = lnQ s d ver lo (s.rw k) := (rfl)
theorem e_len {x : Opd} : estep d (.len x) s = lnS s d (s.ev x) := by unfold lnS lnR lnQ; simp only [estep]; first | done | rfl
theorem lnS_sl {fr : Bool} {z : Nat} {es : List (List Cel)} : lnS s d (.one (.sl fr z es)) = .ok (s.put d (.one (.g (.int .i64 es.length)))) := (rfl)
theorem lnS_nil {a : Option Addr} {n c : Nat} : lnS s d (.one (.g (.slice a n c))) = .ok (s.put d (.one (.g (.int .i64 n)))) := (rfl)
theorem lnS_ow {k ver : Nat} : lnS s d (.one (.ow k ver)) = lnR s d ver (s.rw k) := (rfl)
def slnS (s : AS) (d : Option Nat) : Val → SRes
 | .one (.g (.string b)) => .ok (s.put d (iv b.size))
 | _ => .bad
theorem e_slen {x : Opd} : estep d (.slen x) s = slnS s d (s.ev x) := by unfold slnS; simp only [estep]; first | done | rfl
theorem slnS_s {b : ByteArray} : slnS s d (.one (.g (.string b))) = .ok (s.put d (.one (.g (.int .i64 b.size)))) := (rfl)
def mxS (s : AS) (d : Option Nat) (mx : Bool) : Val → Val → SRes
 | .one (.g (.int k a)), .one (.g (.int _ b)) => .ok (s.put d (ki k (if mx then (if b > a then b else a) else (if b < a then b else a))))
 | _, _ => .bad
theorem e_mnx {mx : Bool} {x y : Opd} : estep d (.mnx mx x y) s = mxS s d mx (s.ev x) (s.ev y) := by unfold mxS; simp only [estep]; rfl
theorem mxS_max {k k' : IntKind} {a b : Int} : mxS s d true (.one (.g (.int k a))) (.one (.g (.int k' b))) = .ok (s.put d (.one (.g (.int k (max a b))))) := by
 simp only [mxS, ki, if_true]; congr 5; rw [Int.max_def]; split <;> split <;> omega
theorem mxS_min {k k' : IntKind} {a b : Int} : mxS s d false (.one (.g (.int k a))) (.one (.g (.int k' b))) = .ok (s.put d (.one (.g (.int k (min a b))))) := by
 simp only [mxS, ki, Bool.false_eq_true, if_false]; congr 5; rw [Int.min_def]; split <;> split <;> omega
def apR (s : AS) (d : Option Nat) (E : TypeId) (z bytes k ver : Nat) (es : List (List Cel)) : Option Row → SRes
 | some r => if ver = r.ver ∧ E = r.E ∧ z = r.z then
   .need ((r.es.length + es.length) * bytes ≤ 140737488355328 ∧ r.es.length + es.length ≤ 9223372036854775807)
    ({ s with rw := upd s.rw k (some { r with ver := r.ver + 1, es := r.es ++ es }) }.put d (.one (.ow k (r.ver + 1)))) else .bad
 | none => .bad
theorem apR_some {z bytes k ver v : Nat} {E : TypeId} {es es0 : List (List Cel)} : apR s d E z bytes k ver es (some ⟨v, E, z, es0⟩) = if ver = v then
   .need ((es0.length + es.length) * bytes ≤ 140737488355328 ∧ es0.length + es.length ≤ 9223372036854775807)
    ({ s with rw := upd s.rw k (some ⟨v + 1, E, z, es0 ++ es⟩) }.put d (.one (.ow k (v + 1)))) else .bad := by simp [apR]
def apS (s : AS) (d : Option Nat) (E : TypeId) (z bytes : Nat) : Val → Option (List (List Cel)) → SRes
 | .one (.ow k ver), some es => apR s d E z bytes k ver es (s.rw k)
 | _, _ => .bad
theorem apS_ow {E : TypeId} {z bytes k ver : Nat} {es : List (List Cel)} : apS s d E z bytes (.one (.ow k ver)) (some es) = apR s d E z bytes k ver es (s.rw k) := (rfl)
theorem e_append {E : TypeId} {z bytes : Nat} {x y : Opd} : estep d (.append E z bytes x y) s = apS s d E z bytes (s.ev x) (s.src z (s.ev y)) := by unfold apS apR; simp only [estep]; first | done | rfl
theorem src_t {z : Nat} {es : List (List Cel)} : s.src z (.one (.sl true z es)) = some (tofE es) := by simp [AS.src]
theorem src_f {z : Nat} {es : List (List Cel)} : s.src z (.one (.sl false z es)) = some (datE es) := by simp [AS.src]
theorem src_nil {z c : Nat} : s.src z (.one (.g (.slice none 0 c))) = some [] := (rfl)
def srcR (z ver : Nat) : Option Row → Option (List (List Cel))
 | some r => if ver = r.ver ∧ r.z = z then some r.es else none
 | none => none
theorem srcR_some {z ver v : Nat} {E : TypeId} {es : List (List Cel)} : srcR z ver (some ⟨v, E, z, es⟩) = if ver = v then some es else none := by simp [srcR]
theorem src_ow {z k ver : Nat} : s.src z (.one (.ow k ver)) = srcR z ver (s.rw k) := (rfl)
theorem datE_nil : datE [] = [] := (rfl)
theorem datE_cons {e : List Cel} {es : List (List Cel)} : datE (e :: es) = e.map Cel.dat :: datE es := (rfl)
theorem tofE_nil : tofE [] = [] := (rfl)
theorem tofE_cons {e : List Cel} {es : List (List Cel)} : tofE (e :: es) = e.map Cel.tof :: tofE es := (rfl)
theorem tof_g {v : Value} : (Cel.g v).tof = .g v := (rfl)
theorem tof_sl {fr : Bool} {z : Nat} {es : List (List Cel)} : (Cel.sl fr z es).tof = .sl true z es := (rfl)
theorem tof_any : Cel.any.tof = .any := (rfl)
theorem frE_nil : frE [] = true := (rfl)
theorem frE_cons {e : List Cel} {es : List (List Cel)} : frE (e :: es) = (e.all freshC && frE es) := (rfl)
theorem frE_app {es fs : List (List Cel)} : frE (es ++ fs) = (frE es && frE fs) := by simp [frE]
theorem datE_app {es fs : List (List Cel)} : datE (es ++ fs) = datE es ++ datE fs := by simp [datE]
theorem tofE_app {es fs : List (List Cel)} : tofE (es ++ fs) = tofE es ++ tofE fs := by simp [tofE]
def sfR (s : AS) (d : Option Nat) (z k ver : Nat) (l : Int) : Option Row → SRes
 | some r => if ver = r.ver ∧ z = r.z then .need (0 ≤ l ∧ l ≤ r.es.length ∧ 0 < r.es.length) (s.put d (.one (.os k ver l.toNat))) else .bad
 | none => .bad
theorem sfR_some {z k ver v : Nat} {l : Int} {E : TypeId} {es : List (List Cel)} : sfR s d z k ver l (some ⟨v, E, z, es⟩) = if ver = v then .need (0 ≤ l ∧ l ≤ es.length ∧ 0 < es.length) (s.put d (.one (.os k ver l.toNat))) else .bad := by simp [sfR]
def sfS (s : AS) (d : Option Nat) (z : Nat) : Val → Val → SRes
 | .one (.ow k ver), .one (.g (.int _ l)) => sfR s d z k ver l (s.rw k)
 | _, _ => .bad
theorem sfS_ow {z k ver : Nat} {kk : IntKind} {l : Int} : sfS s d z (.one (.ow k ver)) (.one (.g (.int kk l))) = sfR s d z k ver l (s.rw k) := (rfl)
theorem e_sfx {z : Nat} {x y : Opd} : estep d (.sfx z x y) s = sfS s d z (s.ev x) (s.ev y) := by unfold sfS sfR; simp only [estep]; first | done | rfl
def tnR (s : AS) (d : Option Nat) (z k ver : Nat) (h : Int) : Option Row → SRes
 | some r => if ver = r.ver ∧ z = r.z then .need (0 ≤ h ∧ h ≤ r.es.length ∧ 0 < r.es.length) ({ s with rw := upd s.rw k (some { r with ver := r.ver + 1, es := r.es.take h.toNat }) }.put d (.one (.ow k (r.ver + 1)))) else .bad
 | none => .bad
theorem tnR_some {z k ver v : Nat} {h : Int} {E : TypeId} {es : List (List Cel)} : tnR s d z k ver h (some ⟨v, E, z, es⟩) = if ver = v then .need (0 ≤ h ∧ h ≤ es.length ∧ 0 < es.length) ({ s with rw := upd s.rw k (some ⟨v + 1, E, z, es.take h.toNat⟩) }.put d (.one (.ow k (v + 1)))) else .bad := by simp [tnR]
def tnS (s : AS) (d : Option Nat) (z : Nat) : Val → Val → SRes
 | .one (.ow k ver), .one (.g (.int _ l)) => tnR s d z k ver l (s.rw k)
 | _, _ => .bad
theorem tnS_ow {z k ver : Nat} {kk : IntKind} {l : Int} : tnS s d z (.one (.ow k ver)) (.one (.g (.int kk l))) = tnR s d z k ver l (s.rw k) := (rfl)
theorem e_trn {z : Nat} {x y : Opd} : estep d (.trn z x y) s = tnS s d z (s.ev x) (s.ev y) := by unfold tnS tnR; simp only [estep]; first | done | rfl
def clrR (s : AS) (d : Option Nat) (E : TypeId) (z : Nat) (zero : List Value) (k ver lo : Nat) : Option Row → SRes
 | some r => if ver = r.ver ∧ E = r.E ∧ z = r.z ∧ zero.length = z then .ok ({ s with rw := upd s.rw k (some { r with es := r.es.take lo ++ List.replicate (r.es.length - lo) (zero.map Cel.g) }) }.put d .any) else .bad
 | none => .bad
theorem clrR_some {z k ver lo v : Nat} {zero : List Value} {E : TypeId} {es : List (List Cel)} : clrR s d E z zero k ver lo (some ⟨v, E, z, es⟩) = if ver = v ∧ zero.length = z then .ok ({ s with rw := upd s.rw k (some ⟨v, E, z, es.take lo ++ List.replicate (es.length - lo) (zero.map Cel.g)⟩) }.put d .any) else .bad := by simp [clrR]
def clrS (s : AS) (d : Option Nat) (E : TypeId) (z : Nat) (zero : List Value) : Val → SRes
 | .one (.os k ver lo) => clrR s d E z zero k ver lo (s.rw k)
 | _ => .bad
theorem clrS_os {E : TypeId} {z k ver lo : Nat} {zero : List Value} : clrS s d E z zero (.one (.os k ver lo)) = clrR s d E z zero k ver lo (s.rw k) := (rfl)
theorem e_clr {E : TypeId} {z : Nat} {zero : List Value} {x : Opd} : estep d (.clr E z zero x) s = clrS s d E z zero (s.ev x) := by unfold clrS clrR; simp only [estep]; first | done | rfl
def mkmR (s : AS) (k kc : Nat) : Option Row → SRes
 | none => if k < XK then .ok { s with tm := upd s.tm k (.one (.mp k)), rw := upd s.rw k (some ⟨0, kc, 0, []⟩) } else .bad
 | some _ => .bad
theorem mkmR_none {k kc : Nat} : mkmR s k kc none = if k < XK then .ok { s with tm := upd s.tm k (.one (.mp k)), rw := upd s.rw k (some ⟨0, kc, 0, []⟩) } else .bad := (rfl)
theorem e_mkm {k kc : Nat} : estep (some k) (.mkm kc) s = mkmR s k kc (s.rw k) := by
 simp only [estep]
 unfold mkmR
 generalize s.rw k = o
 cases o <;> rfl
def mupR (s : AS) (d : Option Nat) (kc k : Nat) (kv : Value) (c : Cel) : Option Row → SRes
 | some r => if r.z = 0 ∧ r.E = kc ∧ keyOk kc kv = true ∧ c.isD = true then .ok ({ s with rw := upd s.rw k (some { r with es := mput kv c r.es }) }.put d .any) else .bad
 | none => .bad
theorem mupR_some {kc k v E : Nat} {kv : Value} {c : Cel} {es : List (List Cel)} : mupR s d kc k kv c (some ⟨v, E, 0, es⟩) = if E = kc ∧ keyOk kc kv = true ∧ c.isD = true then .ok ({ s with rw := upd s.rw k (some ⟨v, E, 0, mput kv c es⟩) }.put d .any) else .bad := by simp [mupR]
def mupS (s : AS) (d : Option Nat) (kc : Nat) : Val → Val → Option Cel → SRes
 | .one (.mp k), .one (.g kv), some c => mupR s d kc k kv c (s.rw k)
 | _, _, _ => .bad
theorem mupS_mp {kc k : Nat} {kv : Value} {c : Cel} : mupS s d kc (.one (.mp k)) (.one (.g kv)) (some c) = mupR s d kc k kv c (s.rw k) := (rfl)
def mdlR (s : AS) (d : Option Nat) (kc k : Nat) (kv : Value) : Option Row → SRes
 | some r => if r.z = 0 ∧ r.E = kc ∧ keyOk kc kv = true then .ok ({ s with rw := upd s.rw k (some { r with es := mdel kv r.es }) }.put d .any) else .bad
 | none => .bad
theorem mdlR_some {kc k v E : Nat} {kv : Value} {es : List (List Cel)} : mdlR s d kc k kv (some ⟨v, E, 0, es⟩) = if E = kc ∧ keyOk kc kv = true then .ok ({ s with rw := upd s.rw k (some ⟨v, E, 0, mdel kv es⟩) }.put d .any) else .bad := by simp [mdlR]
def mdlS (s : AS) (d : Option Nat) (kc : Nat) : Val → Val → SRes
 | .one (.mp k), .one (.g kv) => mdlR s d kc k kv (s.rw k)
 | _, _ => .bad
theorem mdlS_mp {kc k : Nat} {kv : Value} : mdlS s d kc (.one (.mp k)) (.one (.g kv)) = mdlR s d kc k kv (s.rw k) := (rfl)
theorem e_mdl {kc : Nat} {x y : Opd} : estep d (.mdl kc x y) s = mdlS s d kc (s.ev x) (s.ev y) := by unfold mdlS mdlR; simp only [estep]; first | done | rfl
attribute [go_sem] rg_mdl mdlR_some mdlS_mp e_mdl
theorem e_mup {kc : Nat} {x y z : Opd} : estep d (.mup kc x y z) s = mupS s d kc (s.ev x) (s.ev y) (mcel kc (s.ev z)) := by unfold mupS mupR; simp only [estep]; first | done | rfl
theorem mcel_0 {c : Cel} : mcel 0 (.one c) = some c := (rfl)
theorem mcel_4 {c : Cel} : mcel 4 (.one c) = some c := (rfl)
theorem mcel_16_2 {a b : Value} : mcel 16 (.ag [.g a, .g b]) = some (.g (.iface 0 (.agg #[a, b]))) := (rfl)
theorem mcel_20_2 {a b : Value} : mcel 20 (.ag [.g a, .g b]) = some (.g (.iface 0 (.agg #[a, b]))) := (rfl)
theorem mcel_16_3 {a b c : Value} : mcel 16 (.ag [.g a, .g b, .g c]) = some (.g (.iface 0 (.agg #[a, b, c]))) := (rfl)
theorem mcel_20_3 {a b c : Value} : mcel 20 (.ag [.g a, .g b, .g c]) = some (.g (.iface 0 (.agg #[a, b, c]))) := (rfl)
theorem decV_0 {c : Cel} : decV 0 c = .one c := (rfl)
theorem decV_4 {c : Cel} : decV 4 c = .one c := (rfl)
theorem decV_16 {c : Cel} : decV 16 c = decA c := (rfl)
theorem decV_20 {c : Cel} : decV 20 c = decA c := (rfl)
theorem decA_2 {t : TypeId} {a b : Value} : decA (.g (.iface t (.agg #[a, b]))) = .ag [.g a, .g b] := (rfl)
theorem decA_3 {t : TypeId} {a b c : Value} : decA (.g (.iface t (.agg #[a, b, c]))) = .ag [.g a, .g b, .g c] := (rfl)
theorem zeroC_f {zn : Nat} {t : TypeId} {v : Value} : zeroC zn (.iface t v) = .g (.iface t v) := (rfl)
theorem keyOk_int20 {n : Int} : keyOk 20 (.int .i64 n) = true := (rfl)
theorem keyOk_str16 {b : ByteArray} : keyOk 16 (.string b) = true := (rfl)
def mlkR (s : AS) (d : Option Nat) (kc : Nat) (zero : Value) (ok : Bool) (kv : Value) : Option Row → SRes
 | some r => if r.z = 0 ∧ r.E = kc ∧ keyOk kc kv = true then .ok (s.put d (if ok then .tu [decV kc ((mget kv r.es).getD (.g zero)), bv (mget kv r.es).isSome] else decV kc ((mget kv r.es).getD (.g zero)))) else .bad
 | none => .bad
theorem mlkR_f {kc v E : Nat} {zero kv : Value} {es : List (List Cel)} : mlkR s d kc zero false kv (some ⟨v, E, 0, es⟩) = if E = kc ∧ keyOk kc kv = true then .ok (s.put d (decV kc ((mget kv es).getD (.g zero)))) else .bad := by simp [mlkR]
theorem mlkR_t {kc v E : Nat} {zero kv : Value} {es : List (List Cel)} : mlkR s d kc zero true kv (some ⟨v, E, 0, es⟩) = if E = kc ∧ keyOk kc kv = true then .ok (s.put d (.tu [decV kc ((mget kv es).getD (.g zero)), bv (mget kv es).isSome])) else .bad := by simp [mlkR]
def mlkS (s : AS) (d : Option Nat) (kc : Nat) (zero : Value) (ok : Bool) (zn : Nat) : Val → Val → SRes
 | .one (.mp k), .one (.g kv) => mlkR s d kc zero ok kv (s.rw k)
 | .one (.fm kc' es), .one (.g kv) => if kc' = kc ∧ keyOk kc kv = true then .ok (s.put d (if ok then .tu [decV kc ((mgetF kv es).getD (zeroC zn zero)), bv (mgetF kv es).isSome] else decV kc ((mgetF kv es).getD (zeroC zn zero)))) else .bad
 | _, _ => .bad
theorem mlkS_fmf {kc kc' zn : Nat} {zero kv : Value} {es : List (List Cel)} : mlkS s d kc zero false zn (.one (.fm kc' es)) (.one (.g kv)) = if kc' = kc ∧ keyOk kc kv = true then .ok (s.put d (decV kc ((mgetF kv es).getD (zeroC zn zero)))) else .bad := (rfl)
theorem mlkS_fmt {kc kc' zn : Nat} {zero kv : Value} {es : List (List Cel)} : mlkS s d kc zero true zn (.one (.fm kc' es)) (.one (.g kv)) = if kc' = kc ∧ keyOk kc kv = true then .ok (s.put d (.tu [decV kc ((mgetF kv es).getD (zeroC zn zero)), bv (mgetF kv es).isSome])) else .bad := (rfl)
theorem zeroC_b {zn : Nat} {b : Bool} : zeroC zn (.bool b) = .g (.bool b) := (rfl)
theorem zeroC_i {zn : Nat} {k : IntKind} {n : Int} : zeroC zn (.int k n) = .g (.int k n) := (rfl)
theorem zeroC_s {zn : Nat} : zeroC zn (.slice none 0 0) = if zn = 0 then .g (.slice none 0 0) else .sl false zn [] := (rfl)
theorem mlkS_mp {kc k zn : Nat} {zero kv : Value} {ok : Bool} : mlkS s d kc zero ok zn (.one (.mp k)) (.one (.g kv)) = mlkR s d kc zero ok kv (s.rw k) := (rfl)
theorem e_mlk {kc zn : Nat} {zero : Value} {ok : Bool} {x y : Opd} : estep d (.mlk kc zero ok zn x y) s = mlkS s d kc zero ok zn (s.ev x) (s.ev y) := by unfold mlkS mlkR; simp only [estep]; first | done | rfl
theorem keyOk_int {n : Int} : keyOk 4 (.int .i64 n) = true := (rfl)
theorem keyOk_str {b : ByteArray} : keyOk 0 (.string b) = true := (rfl)
/-- Maps whose keys and values are given: what a key has, and a new entry. -/
def lget {α β : Type} [BEq α] (k : α) : List (α × β) → Option β
 | [] => none
 | p :: l => if k == p.1 then some p.2 else lget k l
def lput {α β : Type} [BEq α] (k : α) (v : β) : List (α × β) → List (α × β)
 | [] => [(k, v)]
 | p :: l => if k == p.1 then (k, v) :: l else p :: lput k v l
/-- From numbers to numbers. -/
def mII (l : List (Int × Int)) : List (List Cel) := l.map fun p => [.g (.int .i64 p.1), .g (.int .i64 p.2)]
theorem mII_nil : ([] : List (List Cel)) = mII [] := (rfl)
theorem mget_ii {q : IntKind} {n : Int} : ∀ {l : List (Int × Int)}, mget (.int q n) (mII l) = (lget n l).map fun v => .g (.int .i64 v)
 | [] => rfl
 | p :: l => by
  have ih := mget_ii (q := q) (n := n) (l := l)
  have e : mkey (.int q n) [.g (.int .i64 p.1), .g (.int .i64 p.2)] = (n == p.1) := rfl
  have e1 : mII (p :: l) = [.g (.int .i64 p.1), .g (.int .i64 p.2)] :: mII l := rfl
  rw [e1, mget, lget]
  by_cases h : (n == p.1) = true
  ·rw [if_pos (e.trans h), if_pos h]; rfl
  ·rw [if_neg (fun h' => h (e.symm.trans h')), if_neg h, ih]
theorem mput_ii {n v : Int} : ∀ {l : List (Int × Int)}, mput (.int .i64 n) (.g (.int .i64 v)) (mII l) = mII (lput n v l)
 | [] => rfl
 | p :: l => by
  have ih := mput_ii (n := n) (v := v) (l := l)
  have e : mkey (.int .i64 n) [.g (.int .i64 p.1), .g (.int .i64 p.2)] = (n == p.1) := rfl
  have e1 : mII (p :: l) = [.g (.int .i64 p.1), .g (.int .i64 p.2)] :: mII l := rfl
  rw [e1, mput, lput]
  by_cases h : (n == p.1) = true
  ·rw [if_pos (e.trans h), if_pos h]; rfl
  ·rw [if_neg (fun h' => h (e.symm.trans h')), if_neg h, ih]; rfl
theorem getD_gi {q : IntKind} {o : Option Int} {z : Int} : (o.map fun v => Cel.g (.int q v)).getD (.g (.int q z)) = .g (.int q (o.getD z)) := by cases o <;> rfl
theorem isSome_gi {q : IntKind} {o : Option Int} : (o.map fun v => Cel.g (.int q v)).isSome = o.isSome := by cases o <;> rfl
def mkR (s : AS) (k : Nat) (E : TypeId) (z bytes : Nat) (zero : List Value) (m m' : Int) : Option Row → SRes
 | none => if k < XK ∧ 0 < z ∧ zero.length = z then .need (0 ≤ m ∧ m' = m ∧ m * bytes ≤ 281474976710656 ∧ m ≤ 9223372036854775807) { s with tm := upd s.tm k (.one (.ow k 0)), rw := upd s.rw k (some ⟨0, E, z, List.replicate m.toNat (zero.map Cel.g)⟩) } else .bad
 | some _ => .bad
theorem mkR_none {k : Nat} {E : TypeId} {z bytes : Nat} {zero : List Value} {m m' : Int} : mkR s k E z bytes zero m m' none = if k < XK ∧ 0 < z ∧ zero.length = z then .need (0 ≤ m ∧ m' = m ∧ m * bytes ≤ 281474976710656 ∧ m ≤ 9223372036854775807) { s with tm := upd s.tm k (.one (.ow k 0)), rw := upd s.rw k (some ⟨0, E, z, List.replicate m.toNat (zero.map Cel.g)⟩) } else .bad := (rfl)
def mkrS (s : AS) (k : Nat) (E : TypeId) (z bytes : Nat) (zero : List Value) : Val → Val → SRes
 | .one (.g (.int _ m)), .one (.g (.int _ m')) => mkR s k E z bytes zero m m' (s.rw k)
 | _, _ => .bad
theorem mkrS_int {k : Nat} {E : TypeId} {z bytes : Nat} {zero : List Value} {kk kk' : IntKind} {m m' : Int} : mkrS s k E z bytes zero (.one (.g (.int kk m))) (.one (.g (.int kk' m'))) = mkR s k E z bytes zero m m' (s.rw k) := (rfl)
theorem e_mkr {k : Nat} {E : TypeId} {z b : Nat} {zero : List Value} {x y : Opd} : estep (some k) (.mkr E z b zero x y) s = mkrS s k E z b zero (s.ev x) (s.ev y) := by
 simp only [estep]
 generalize s.ev x = u
 generalize s.ev y = w
 unfold mkrS mkR
 cases u with
 | one c =>
  cases c with
  | g v =>
   cases v with
   | int a m =>
    cases w with
    | one c' =>
     cases c' with
     | g v' => cases v' <;> rfl
     | _ => rfl
    | _ => rfl
   | _ => rfl
  | _ => rfl
 | _ => rfl
/-! views, what stays, what is handed back -/
theorem view_one {c : Cel} : s.view (.one c) = .one (s.viewC c) := (rfl)
theorem view_ag {cs : List Cel} : s.view (.ag cs) = .ag (cs.map s.viewC) := (rfl)
theorem viewC_g {v : Value} : s.viewC (.g v) = .g v := (rfl)
def mpR : Option Row → Cel
 | some r => .fm r.E r.es
 | none => .any
theorem mpR_some {v z : Nat} {E : TypeId} {es : List (List Cel)} : mpR (some ⟨v, E, z, es⟩) = .fm E es := (rfl)
theorem viewC_mp {k : Nat} : s.viewC (.mp k) = mpR (s.rw k) := (rfl)
theorem viewC_fm {kc : Nat} {es : List (List Cel)} : s.viewC (.fm kc es) = .fm kc es := (rfl)
theorem viewC0_fm {kc : Nat} {es : List (List Cel)} : s.viewC0 (.fm kc es) = .fm kc es := (rfl)
theorem dataV_fm {kc : Nat} {es : List (List Cel)} : s.dataV (.fm kc es) = .fm kc es := (rfl)
theorem finC_fm {kc : Nat} {es : List (List Cel)} : s.finC (.fm kc es) = .fm kc es := (rfl)
theorem renC_fm {K : Kp} {kc : Nat} {es : List (List Cel)} : s.renC K (.fm kc es) = .fm kc es := (rfl)
theorem plainC_fm {kc : Nat} {es : List (List Cel)} : plainC (.fm kc es) = true := (rfl)
theorem passC_fm {m : CAnn} {kc : Nat} {es : List (List Cel)} : s.passC m (.fm kc es) = .fm kc es := (rfl)
theorem backC_fm {m : CAnn} {kc : Nat} {es : List (List Cel)} : s.backC m (.fm kc es) = .fm kc es := (rfl)
theorem dat_fm {kc : Nat} {es : List (List Cel)} : Cel.dat (.fm kc es) = .fm kc es := (rfl)
theorem viewC_any : s.viewC .any = .any := (rfl)
theorem viewC_sl {fr : Bool} {z : Nat} {es : List (List Cel)} : s.viewC (.sl fr z es) = .sl false z es := (rfl)
theorem viewC_ep {cs : List Cel} : s.viewC (.ep cs) = .ep cs := (rfl)
theorem viewC_mv {f : FuncId} {cs : List Cel} : s.viewC (.mv f cs) = .any := (rfl)
theorem viewC_fn {f : FuncId} {cs : List Cel} : s.viewC (.fn f cs) = .fn f (cs.map s.viewC0) := (rfl)
def vwR (ver : Nat) : Option Row → Cel
 | some r => if ver = r.ver then .sl false r.z r.es else .any
 | none => .any
theorem vwR_some {ver v z : Nat} {E : TypeId} {es : List (List Cel)} : vwR ver (some ⟨v, E, z, es⟩) = if ver = v then .sl false z es else .any := (rfl)
def vwW (ver lo hi : Nat) : Option Row → Cel
 | some r => if ver = r.ver then .sl false r.z ((r.es.take hi).drop lo) else .any
 | none => .any
theorem vwW_some {v ver lo hi z : Nat} {E : TypeId} {es : List (List Cel)} : vwW ver lo hi (some ⟨v, E, z, es⟩) = if ver = v then .sl false z ((es.take hi).drop lo) else .any := (rfl)
theorem viewC_ws {k ver lo hi : Nat} : s.viewC (.ws k ver lo hi) = vwW ver lo hi (s.rw k) := (rfl)
theorem viewC_ow {k ver : Nat} : s.viewC (.ow k ver) = vwR ver (s.rw k) := (rfl)
def vwB (s : AS) (off : Nat) : Option (List Cel) → Cel
 | some cs => .ep ((cs.drop off).map s.dataV)
 | none => .any
theorem vwB_some {off : Nat} {cs : List Cel} : vwB s off (some cs) = .ep ((cs.drop off).map s.dataV) := (rfl)
theorem viewC_bx {k off : Nat} : s.viewC (.bx k off) = vwB s off (s.bx k) := (rfl)
theorem viewC0_bx {k off : Nat} : s.viewC0 (.bx k off) = vwB s off (s.bx k) := (rfl)
theorem viewC0_ep {cs : List Cel} : s.viewC0 (.ep cs) = .ep cs := (rfl)
theorem viewC0_g {v : Value} : s.viewC0 (.g v) = .g v := (rfl)
theorem dataV_g {v : Value} : s.dataV (.g v) = .g v := (rfl)
theorem dataV_sl {fr : Bool} {z : Nat} {es : List (List Cel)} : s.dataV (.sl fr z es) = .sl false z es := (rfl)
theorem dataV_ow {k ver : Nat} : s.dataV (.ow k ver) = vwR ver (s.rw k) := (rfl)
theorem dataV_mp {k : Nat} : s.dataV (.mp k) = mpR (s.rw k) := (rfl)
theorem dataV_fn {f : FuncId} : s.dataV (.fn f []) = .g (.func (.func f) #[] #[]) := (rfl)
theorem dataV_any : s.dataV .any = .any := (rfl)
theorem fin_one {c : Cel} : s.fin (.one c) = .one (s.finC c) := (rfl)
theorem fin_ag {cs : List Cel} : s.fin (.ag cs) = .ag (cs.map s.finC) := (rfl)
theorem finC_g {v : Value} : s.finC (.g v) = .g v := (rfl)
def mpF (k : Nat) : Option Row → Cel
 | some r => if k < XK then .fm r.E r.es else .any
 | none => .any
theorem mpF_some {k v z : Nat} {E : TypeId} {es : List (List Cel)} : mpF k (some ⟨v, E, z, es⟩) = if k < 1000000 then .fm E es else .any := (rfl)
theorem finC_mp {k : Nat} : s.finC (.mp k) = mpF k (s.rw k) := (rfl)
theorem finC_any : s.finC .any = .any := (rfl)
theorem finC_sl {fr : Bool} {z : Nat} {es : List (List Cel)} : s.finC (.sl fr z es) = .sl fr z es := (rfl)
theorem finC_ep {cs : List Cel} : s.finC (.ep cs) = .ep cs := (rfl)
def fnR (k ver : Nat) : Option Row → Cel
 | some r => if ver = r.ver then (if k < XK then .sl (frE r.es) r.z r.es else .any) else .any
 | none => .any
theorem fnR_some {k ver v z : Nat} {E : TypeId} {es : List (List Cel)} : fnR k ver (some ⟨v, E, z, es⟩) = if ver = v then (if k < XK then .sl (frE es) z es else .any) else .any := (rfl)
theorem finC_ow {k ver : Nat} : s.finC (.ow k ver) = fnR k ver (s.rw k) := (rfl)
theorem XK_eq : XK = 1000000 := (rfl)
def keepT (s : AS) (K : Kp) : List Nat → List (Nat × Val)
 | [] => []
 | t :: l => (t, s.ren K (s.tm t)) :: keepT s K l
theorem keepT_nil {K : Kp} : keepT s K [] = [] := (rfl)
theorem keepT_cons {K : Kp} {t : Nat} {l : List Nat} : keepT s K (t :: l) = (t, s.ren K (s.tm t)) :: keepT s K l := (rfl)
def keepB (s : AS) (K : Kp) : List Nat → List (Nat × List Cel)
 | [] => []
 | k :: l => kpB s K k (s.bx k) (keepB s K l)
where kpB (s : AS) (K : Kp) (k : Nat) : Option (List Cel) → List (Nat × List Cel) → List (Nat × List Cel)
 | some cs, l => (k, cs.map (s.renC K)) :: l
 | none, l => l
theorem keepB_nil {K : Kp} : keepB s K [] = [] := (rfl)
theorem keepB_cons {K : Kp} {k : Nat} {l : List Nat} : keepB s K (k :: l) = keepB.kpB s K k (s.bx k) (keepB s K l) := (rfl)
theorem kpB_some {K : Kp} {k : Nat} {cs : List Cel} {l : List (Nat × List Cel)} : keepB.kpB s K k (some cs) l = (k, cs.map (s.renC K)) :: l := (rfl)
theorem kpB_none {K : Kp} {k : Nat} {l : List (Nat × List Cel)} : keepB.kpB s K k none l = l := (rfl)
def keepR (s : AS) (K : Kp) : List Nat → List (Nat × Row)
 | [] => []
 | k :: l => kpR K k (s.rw k) (keepR s K l)
where kpR (K : Kp) (k : Nat) : Option Row → List (Nat × Row) → List (Nat × Row)
 | some r, l => (k, { r with ver := K.q k r.ver }) :: l
 | none, l => l
theorem keepR_nil {K : Kp} : keepR s K [] = [] := (rfl)
theorem keepR_cons {K : Kp} {k : Nat} {l : List Nat} : keepR s K (k :: l) = keepR.kpR K k (s.rw k) (keepR s K l) := (rfl)
theorem kpR_some {ts bs rs : List Nat} {q : Nat → Nat → Nat} {k v z : Nat} {E : TypeId} {es : List (List Cel)} {l : List (Nat × Row)} : keepR.kpR ⟨ts, bs, rs, q⟩ k (some ⟨v, E, z, es⟩) l = (k, ⟨q k v, E, z, es⟩) :: l := (rfl)
theorem kpR_none {K : Kp} {k : Nat} {l : List (Nat × Row)} : keepR.kpR K k none l = l := (rfl)
theorem keepK_eq {K : Kp} : s.keepK K = ⟨tabV (keepT s K K.ts), tabO (keepB s K K.bs), tabO (keepR s K K.rs)⟩ := by
 have h1 : ∀ l, keepT s K l = l.map fun t => (t, s.ren K (s.tm t)) := by
  intro l; induction l with
  | nil => rfl
  | cons t l ih => simp only [keepT, ih, List.map_cons]
 have h2 : ∀ l, keepB s K l = l.filterMap fun k => (s.bx k).map fun cs => (k, cs.map (s.renC K)) := by
  intro l; induction l with
  | nil => rfl
  | cons t l ih => simp only [keepB, ih, List.filterMap_cons]; cases s.bx t <;> rfl
 have h3 : ∀ l, keepR s K l = l.filterMap fun k => (s.rw k).map fun r => (k, { r with ver := K.q k r.ver }) := by
  intro l; induction l with
  | nil => rfl
  | cons t l ih => simp only [keepR, ih, List.filterMap_cons]; cases s.rw t <;> rfl
 rw [h1, h2, h3]; rfl
theorem keep_some {ts bs rs : List Nat} : s.keep (some ⟨ts, bs, rs⟩) = ⟨tabV (keepT s ⟨ts, bs, rs, kv⟩ ts), tabO (keepB s ⟨ts, bs, rs, kv⟩ bs), tabO (keepR s ⟨ts, bs, rs, kv⟩ rs)⟩ := keepK_eq (K := ⟨ts, bs, rs, kv⟩)
theorem kv_lo {k v : Nat} (h : k < 1000000) : kv k v = 0 := by unfold kv XK; rw [if_pos h]
theorem kv_hi0 {k : Nat} (h : 1000000 ≤ k) : kv k 0 = 0 := by unfold kv; split <;> rfl
theorem kv_hi1 {k v : Nat} (h : 1000000 ≤ k) (h' : 1 ≤ v) : kv k v = 1 := by unfold kv XK; rw [if_neg (by omega)]; omega
theorem kz_eq {k v : Nat} : kz k v = 0 := (rfl)
theorem keep_at {ts bs rs : List Nat} {q : Nat → Nat → Nat} : Keep.at ⟨ts, bs, rs⟩ q = ⟨ts, bs, rs, q⟩ := (rfl)
theorem keep_none : s.keep none = s := (rfl)
theorem ren_one {K : Kp} {c : Cel} : s.ren K (.one c) = .one (s.renC K c) := (rfl)
theorem ren_ag {K : Kp} {cs : List Cel} : s.ren K (.ag cs) = .ag (cs.map (s.renC K)) := (rfl)
theorem ren_tu {K : Kp} {vs : List Val} : s.ren K (.tu vs) = .any := (rfl)
theorem ren_any {K : Kp} : s.ren K .any = .any := (rfl)
theorem renC_g {K : Kp} {v : Value} : s.renC K (.g v) = .g v := (rfl)
theorem renC_sl {K : Kp} {fr : Bool} {z : Nat} {es : List (List Cel)} : s.renC K (.sl fr z es) = .sl fr z es := (rfl)
theorem renC_ep {K : Kp} {cs : List Cel} : s.renC K (.ep cs) = .ep cs := (rfl)
theorem renC_mp {ts bs rs : List Nat} {q : Nat → Nat → Nat} {k : Nat} : s.renC ⟨ts, bs, rs, q⟩ (.mp k) = if k ∈ rs then .mp k else mpF k (s.rw k) := (rfl)
theorem renC_any {K : Kp} : s.renC K .any = .any := (rfl)
def frzO (k off : Nat) : Option (List Cel) → Cel
 | some cs => if k ≠ 0 ∧ k < XK then .ep ((cs.drop off).map frzC) else .any
 | none => .any
theorem frzO_some {k off : Nat} {cs : List Cel} : frzO k off (some cs) = if k ≠ 0 ∧ k < 1000000 then .ep ((cs.drop off).map frzC) else .any := (rfl)
theorem frzO_none {k off : Nat} : frzO k off none = .any := (rfl)
theorem frzC_g {v : Value} : frzC (.g v) = .g v := (rfl)
theorem frzC_sl {fr : Bool} {z : Nat} {es : List (List Cel)} : frzC (.sl fr z es) = .sl fr z es := (rfl)
theorem frzC_fm {kc : Nat} {es : List (List Cel)} : frzC (.fm kc es) = .fm kc es := (rfl)
theorem frzC_ep {cs : List Cel} : frzC (.ep cs) = .ep cs := (rfl)
theorem frzC_any : frzC .any = .any := (rfl)
theorem renC_bx {ts bs rs : List Nat} {q : Nat → Nat → Nat} {k off : Nat} : s.renC ⟨ts, bs, rs, q⟩ (.bx k off) = if k ∈ bs then .bx k off else frzO k off (s.bx k) := by
 simp only [AS.renC]; split
 ·rfl
 ·unfold frzO; cases s.bx k <;> rfl
theorem finC_bx {k off : Nat} : s.finC (.bx k off) = frzO k off (s.bx k) := by
 simp only [AS.finC]; unfold frzO; cases s.bx k <;> rfl
theorem dataV_ep {cs : List Cel} : s.dataV (.ep cs) = .ep cs := (rfl)
theorem n0_ne {k : Nat} (h : 0 < k) : (k ≠ 0) = True := by simp; omega
attribute [go_sem] frzO_some frzO_none frzC_g frzC_sl frzC_fm frzC_ep frzC_any finC_bx dataV_ep n0_ne
def rnR (c c' : Cel) (ver : Nat) : Option Row → Cel
 | some r => if ver = r.ver then c else c'
 | none => c'
theorem rnR_some {c c' : Cel} {ver v z : Nat} {E : TypeId} {es : List (List Cel)} : rnR c c' ver (some ⟨v, E, z, es⟩) = if ver = v then c else c' := (rfl)
def rnO (k k' ver : Nat) (b : Bool) : Option Row → Cel
 | some r => if ver = r.ver then (if b then .ow k k' else if k < XK then .sl (frE r.es) r.z r.es else .any) else .any
 | none => .any
theorem rnO_some {k k' ver v z : Nat} {b : Bool} {E : TypeId} {es : List (List Cel)} : rnO k k' ver b (some ⟨v, E, z, es⟩) = if ver = v then (if b then .ow k k' else if k < XK then .sl (frE es) z es else .any) else .any := (rfl)
theorem renC_ow {ts bs rs : List Nat} {q : Nat → Nat → Nat} {k ver : Nat} : s.renC ⟨ts, bs, rs, q⟩ (.ow k ver) = rnO k (q k ver) ver (decide (k ∈ rs)) (s.rw k) := by
 unfold rnO; simp only [AS.renC, decide_eq_true_eq]; cases s.rw k <;> rfl
theorem renC_os {ts bs rs : List Nat} {q : Nat → Nat → Nat} {k ver lo : Nat} : s.renC ⟨ts, bs, rs, q⟩ (.os k ver lo) = if k ∈ rs then rnR (.os k (q k ver) lo) .any ver (s.rw k) else .any := (rfl)
theorem renC_op {ts bs rs : List Nat} {q : Nat → Nat → Nat} {k ver i off : Nat} : s.renC ⟨ts, bs, rs, q⟩ (.op k ver i off) = if k ∈ rs then rnR (.op k (q k ver) i off) .any ver (s.rw k) else .any := (rfl)
def capIn (bs : List Nat) : Cel → Bool
 | .bx k _ => k ∈ bs
 | .g _ => true
 | .ep _ => true
 | _ => false
theorem renC_mv {ts bs rs : List Nat} {q : Nat → Nat → Nat} {f : FuncId} {caps : List Cel} : s.renC ⟨ts, bs, rs, q⟩ (.mv f caps) = if caps.all (capIn bs) then .mv f caps else .any := by
 simp only [AS.renC]; congr 3
theorem renC_fn {ts bs rs : List Nat} {q : Nat → Nat → Nat} {f : FuncId} {caps : List Cel} : s.renC ⟨ts, bs, rs, q⟩ (.fn f caps) = if caps.all (capIn bs) then .fn f caps else .any := by
 simp only [AS.renC]; congr 3
theorem capIn_bx {bs : List Nat} {k off : Nat} : capIn bs (.bx k off) = decide (k ∈ bs) := (rfl)
theorem capIn_ep {bs : List Nat} {cs : List Cel} : capIn bs (.ep cs) = true := (rfl)
theorem capIn_g {bs : List Nat} {v : Value} : capIn bs (.g v) = true := (rfl)
def ownH (s : AS) (k off rk : Nat) (E : TypeId) (z : Nat) (T : AS → Prop) : Option (List Cel) → Option Row → Prop
 | some cs, none => (cs[off]?.map nilC = some true ∧ rk < XK) ∧ 0 < z ∧ T { s with bx := upd s.bx k (some (wr cs off [.ow rk 0])), rw := upd s.rw rk (some ⟨0, E, z, []⟩) }
 | _, _ => False
theorem ex_ownb {j off rk : Nat} {E : TypeId} {z : Nat} {k : List KI} : ex P (.ownb j off rk E z) k Q s = ownH s j off rk E z (ex P .skip k Q) (s.bx j) (s.rw rk) := by
 unfold ownH; rfl
theorem ownH_nil {j off rk : Nat} {E : TypeId} {z : Nat} {cs : List Cel} {k : List KI} : ownH s j off rk E z (ex P .skip k Q) (some cs) none = ((cs[off]?.map nilC = some true ∧ rk < 1000000) ∧ 0 < z ∧ ex P .skip k Q { s with bx := upd s.bx j (some (wr cs off [.ow rk 0])), rw := upd s.rw rk (some ⟨0, E, z, []⟩) }) := (rfl)
theorem nilC_eq : nilC (.g (.slice none 0 0)) = true := (rfl)
def ownG (s : AS) (k : Nat) (E : TypeId) (z : Nat) (T : AS → Prop) : Val → Option Row → Prop
 | .one (.g (.slice none 0 c)), none => c = 0 ∧ 0 < z ∧ T { s with tm := upd s.tm k (.one (.ow k 0)), rw := upd s.rw k (some ⟨0, E, z, []⟩) }
 | _, _ => False
theorem ex_own' {j : Nat} {E : TypeId} {z : Nat} {k : List KI} : ex P (.own j E z) k Q s = ownG s j E z (ex P .skip k Q) (s.tm j) (s.rw j) := by
 unfold ownG; rfl
theorem ownG_nil {j : Nat} {E : TypeId} {z : Nat} {k : List KI} : ownG s j E z (ex P .skip k Q) (.one (.g (.slice none 0 0))) none = (0 < z ∧ ex P .skip k Q { s with tm := upd s.tm j (.one (.ow j 0)), rw := upd s.rw j (some ⟨0, E, z, []⟩) }) := by
 simp [ownG]
theorem plainV_one {c : Cel} : plainV (.one c) = plainC c := (rfl)
theorem plainV_ag {cs : List Cel} : plainV (.ag cs) = cs.all plainC := (rfl)
theorem plainC_g {v : Value} : plainC (.g v) = true := (rfl)
theorem plainC_sl {fr : Bool} {z : Nat} {es : List (List Cel)} : plainC (.sl fr z es) = true := (rfl)
theorem plainC_ep {cs : List Cel} : plainC (.ep cs) = true := (rfl)
theorem plainC_mp {k : Nat} : plainC (.mp k) = false := (rfl)
theorem plainC_any : plainC .any = true := (rfl)
theorem plainC_bx {k off : Nat} : plainC (.bx k off) = false := (rfl)
theorem plainC_ow {k ver : Nat} : plainC (.ow k ver) = false := (rfl)
theorem plainC_op {k ver i off : Nat} : plainC (.op k ver i off) = false := (rfl)
theorem plainC_fn0 {f : FuncId} : plainC (.fn f []) = true := (rfl)
/-! calls that are handed boxes and rows -/
def hpB (s : AS) (m : CAnn) : List Nat → List (Nat × List Cel)
 | [] => []
 | k :: l => hpB1 k (s.bx k) (hpB s m l)
where hpB1 (k : Nat) : Option (List Cel) → List (Nat × List Cel) → List (Nat × List Cel)
 | some cs, l => (k, cs.map (s.passC m)) :: l
 | none, l => l
theorem hpB_nil {m : CAnn} : hpB s m [] = [] := (rfl)
theorem hpB_cons {m : CAnn} {k : Nat} {l : List Nat} : hpB s m (k :: l) = hpB.hpB1 s m k (s.bx k) (hpB s m l) := (rfl)
theorem hpB1_some {m : CAnn} {k : Nat} {cs : List Cel} {l : List (Nat × List Cel)} : hpB.hpB1 s m k (some cs) l = (k, cs.map (s.passC m)) :: l := (rfl)
def hpR (s : AS) : List Nat → List (Nat × Row)
 | [] => []
 | k :: l => hpR1 k (s.rw k) (hpR s l)
where hpR1 (k : Nat) : Option Row → List (Nat × Row) → List (Nat × Row)
 | some r, l => (k, { r with ver := 0, es := datE r.es }) :: l
 | none, l => l
theorem hpR_nil : hpR s [] = [] := (rfl)
theorem hpR_cons {k : Nat} {l : List Nat} : hpR s (k :: l) = hpR.hpR1 k (s.rw k) (hpR s l) := (rfl)
theorem hpR1_some {k v z : Nat} {E : TypeId} {es : List (List Cel)} {l : List (Nat × Row)} : hpR.hpR1 k (some ⟨v, E, z, es⟩) l = (k, ⟨0, E, z, datE es⟩) :: l := (rfl)
theorem hp_eq {a b c e f : List Nat} : s.hp ⟨a, b, c, e, f⟩ = ⟨hpB s ⟨a, b, c, e, f⟩ a, hpR s b⟩ := by
 have h1 : ∀ (m : CAnn) l, hpB s m l = l.filterMap fun k => (s.bx k).map fun cs => (k, cs.map (s.passC m)) := by
  intro m l; induction l with
  | nil => rfl
  | cons t l ih => simp only [hpB, ih, List.filterMap_cons]; cases s.bx t <;> rfl
 have h2 : ∀ l, hpR s l = l.filterMap fun k => (s.rw k).map fun r => (k, { r with ver := 0, es := datE r.es }) := by
  intro l; induction l with
  | nil => rfl
  | cons t l ih => simp only [hpR, ih, List.filterMap_cons]; cases s.rw t <;> rfl
 rw [h1, h2]; rfl
theorem passV_one {m : CAnn} {c : Cel} : s.passV m (.one c) = .one (s.passC m c) := (rfl)
theorem passV_ag {m : CAnn} {cs : List Cel} : s.passV m (.ag cs) = .ag (cs.map (s.passC m)) := (rfl)
theorem passV_any {m : CAnn} : s.passV m .any = .any := (rfl)
theorem passC_g {m : CAnn} {v : Value} : s.passC m (.g v) = .g v := (rfl)
theorem passC_sl {m : CAnn} {fr : Bool} {z : Nat} {es : List (List Cel)} : s.passC m (.sl fr z es) = .sl false z es := (rfl)
theorem passC_ep {m : CAnn} {cs : List Cel} : s.passC m (.ep cs) = .ep cs := (rfl)
theorem passC_mp {a b c e f : List Nat} {k : Nat} : s.passC ⟨a, b, c, e, f⟩ (.mp k) = if k ∈ b then .mp k else .any := (rfl)
theorem passC_any {m : CAnn} : s.passC m .any = .any := (rfl)
theorem passC_bx {a b c e f : List Nat} {k off : Nat} : s.passC ⟨a, b, c, e, f⟩ (.bx k off) = if k ∈ a then .bx k off else .any := (rfl)
def psR (k ver : Nat) (t : Bool) (c : Cel) : Option Row → Cel
 | some r => if ver = r.ver ∧ t = true then c else .any
 | none => .any
theorem psR_some {k ver v z : Nat} {t : Bool} {c : Cel} {E : TypeId} {es : List (List Cel)} : psR k ver t c (some ⟨v, E, z, es⟩) = if ver = v ∧ t = true then c else .any := (rfl)
theorem passC_ow {a b c e f : List Nat} {k ver : Nat} : s.passC ⟨a, b, c, e, f⟩ (.ow k ver) = psR k ver (decide (k ∈ b)) (.ow k 0) (s.rw k) := by
 simp only [AS.passC, AS.passC0]; unfold psR; cases s.rw k <;> simp
theorem passC_op {a b c e f : List Nat} {k ver i off : Nat} : s.passC ⟨a, b, c, e, f⟩ (.op k ver i off) = psR k ver (decide (k ∈ b)) (.op k 0 i off) (s.rw k) := by
 simp only [AS.passC, AS.passC0]; unfold psR; cases s.rw k <;> simp
theorem passC_mv {m : CAnn} {f : FuncId} {caps : List Cel} : s.passC m (.mv f caps) = .mv f (caps.map (s.passC0 m)) := (rfl)
theorem passC_fn {m : CAnn} {f : FuncId} {caps : List Cel} : s.passC m (.fn f caps) = .fn f (caps.map (s.passC0 m)) := (rfl)
theorem passC0_g {m : CAnn} {v : Value} : s.passC0 m (.g v) = .g v := (rfl)
theorem passC0_bx {a b c e f : List Nat} {k off : Nat} : s.passC0 ⟨a, b, c, e, f⟩ (.bx k off) = if k ∈ a then .bx k off else .any := (rfl)
def nvR (t : Bool) : Option Row → Nat
 | some r => if t then r.ver else r.ver + 1
 | none => 0
theorem nv_eq {a b c e f : List Nat} {k : Nat} : s.nv ⟨a, b, c, e, f⟩ k = nvR (decide (k ∈ f)) (s.rw k) := by unfold nvR; simp only [AS.nv, decide_eq_true_eq]; cases s.rw k <;> rfl
theorem nvR_some {t : Bool} {v z : Nat} {E : TypeId} {es : List (List Cel)} : nvR t (some ⟨v, E, z, es⟩) = if t then v else v + 1 := (rfl)
theorem nvR_none {t : Bool} : nvR t none = 0 := (rfl)
theorem after_eq {m : CAnn} {bs : List (Nat × List Cel)} {rs : List (Nat × Row)} : s.after m ⟨bs, rs⟩ = ⟨s.tm, putB s m bs s.bx, putR s m rs s.rw⟩ := (rfl)
theorem putB_nil {m : CAnn} {b : Nat → Option (List Cel)} : putB s m [] b = b := (rfl)
theorem putB_cons {m : CAnn} {k : Nat} {cs : List Cel} {l : List (Nat × List Cel)} {b : Nat → Option (List Cel)} : putB s m ((k, cs) :: l) b = upd (putB s m l b) k (some (cs.map (s.backC m))) := (rfl)
theorem putR_nil {m : CAnn} {b : Nat → Option Row} : putR s m [] b = b := (rfl)
theorem putR_cons {m : CAnn} {k v z : Nat} {E : TypeId} {es : List (List Cel)} {l : List (Nat × Row)} {b : Nat → Option Row} : putR s m ((k, ⟨v, E, z, es⟩) :: l) b = upd (putR s m l b) k (some ⟨s.nv m k, E, z, es⟩) := (rfl)
theorem backC_g {m : CAnn} {v : Value} : s.backC m (.g v) = .g v := (rfl)
theorem backC_sl {m : CAnn} {fr : Bool} {z : Nat} {es : List (List Cel)} : s.backC m (.sl fr z es) = .sl fr z es := (rfl)
theorem backC_ep {m : CAnn} {cs : List Cel} : s.backC m (.ep cs) = .ep cs := (rfl)
theorem backC_mp {m : CAnn} {k : Nat} : s.backC m (.mp k) = .mp k := (rfl)
theorem backC_any {m : CAnn} : s.backC m .any = .any := (rfl)
theorem backC_bx {m : CAnn} {k off : Nat} : s.backC m (.bx k off) = .bx k off := (rfl)
theorem backC_ow {m : CAnn} {k v : Nat} : s.backC m (.ow k v) = .ow k (s.nv m k) := (rfl)
theorem backC_op {m : CAnn} {k v i off : Nat} : s.backC m (.op k v i off) = .op k (s.nv m k) i off := (rfl)
theorem backC_fn {m : CAnn} {f : FuncId} {caps : List Cel} : s.backC m (.fn f caps) = if caps.all capB then .fn f caps else .any := (rfl)
theorem capB_bx {k off : Nat} : capB (.bx k off) = true := (rfl)
theorem capB_g {v : Value} : capB (.g v) = true := (rfl)
theorem capB_ep {cs : List Cel} : capB (.ep cs) = false := (rfl)
theorem backV_one {m : CAnn} {c : Cel} : s.backV m (.one c) = .one (s.backC m c) := (rfl)
theorem backV_ag {m : CAnn} {cs : List Cel} : s.backV m (.ag cs) = .ag (cs.map (s.backC m)) := (rfl)
theorem backV_any {m : CAnn} : s.backV m .any = .any := (rfl)
def backT (s : AS) (m : CAnn) : List Val → List Val
 | [] => []
 | .one c :: l => .one (s.backC m c) :: backT s m l
 | .ag cs :: l => .ag (cs.map (s.backC m)) :: backT s m l
 | _ :: l => .any :: backT s m l
theorem backT_nil {m : CAnn} : backT s m [] = [] := (rfl)
theorem backT_one {m : CAnn} {c : Cel} {l : List Val} : backT s m (.one c :: l) = .one (s.backC m c) :: backT s m l := (rfl)
theorem backT_ag {m : CAnn} {cs : List Cel} {l : List Val} : backT s m (.ag cs :: l) = .ag (cs.map (s.backC m)) :: backT s m l := (rfl)
theorem backT_any {m : CAnn} {l : List Val} : backT s m (.any :: l) = .any :: backT s m l := (rfl)
theorem backV_tu {m : CAnn} {vs : List Val} : s.backV m (.tu vs) = .tu (backT s m vs) := by
 have h : ∀ l : List Val, backT s m l = l.map fun v => match v with | .one c => .one (s.backC m c) | .ag cs => .ag (cs.map (s.backC m)) | _ => .any := by
  intro l; induction l with
  | nil => rfl
  | cons v l ih => cases v <;> simp only [backT, List.map_cons, ih]
 rw [h]; rfl
/-! results -/
def resG (R : List Cel → Val → Prop) : Option Val → Prop
 | some r => R [] r
 | none => False
theorem fpost_ret {rs : List RV} {R : List Cel → Val → Prop} : fpost none rs R .ret s = resG R (s.res rs) := by unfold resG; simp only [fpost]; cases s.res rs <;> rfl
theorem fpost_nrm {rs : List RV} {R : List Cel → Val → Prop} : fpost none rs R .nrm s = resG R (s.res rs) := by unfold resG; simp only [fpost]; cases s.res rs <;> rfl
theorem resG_some {R : List Cel → Val → Prop} {r : Val} : resG R (some r) = R [] r := (rfl)
def resX (s : AS) (R : List Cel → Val → Prop) : Option Val → Option (List Cel) → Prop
 | some r, some cs => R (cs.map s.finC) r
 | _, _ => False
theorem fpostx_ret {cs : List Cel} {rs : List RV} {R : List Cel → Val → Prop} : fpost (some cs) rs R .ret s = resX s R (s.res rs) (s.bx 0) := by
 unfold resX; simp only [fpost]; cases s.res rs <;> cases s.bx 0 <;> rfl
theorem fpostx_nrm {cs : List Cel} {rs : List RV} {R : List Cel → Val → Prop} : fpost (some cs) rs R .nrm s = resX s R (s.res rs) (s.bx 0) := by
 unfold resX; simp only [fpost]; cases s.res rs <;> cases s.bx 0 <;> rfl
theorem resX_some {R : List Cel → Val → Prop} {r : Val} {cs : List Cel} : resX s R (some r) (some cs) = R (cs.map s.finC) r := (rfl)
def rvL (s : AS) : List RV → Option (List Val)
 | [] => some []
 | x :: l => consV (s.rv x) (rvL s l)
where consV : Option Val → Option (List Val) → Option (List Val)
 | some v, some vs => some (v :: vs)
 | _, _ => none
theorem rvL_nil : rvL s [] = some [] := (rfl)
theorem rvL_cons {x : RV} {l : List RV} : rvL s (x :: l) = rvL.consV (s.rv x) (rvL s l) := (rfl)
theorem consV_some {v : Val} {vs : List Val} : rvL.consV (some v) (some vs) = some (v :: vs) := (rfl)
def resV : Option (List Val) → Option Val
 | some [v] => some v
 | some vs => some (.tu vs)
 | none => none
theorem res_eq {rs : List RV} : s.res rs = resV (rvL s rs) := by
 have h : ∀ rs : List RV, rvL s rs = rs.mapM s.rv := by
  intro rs; induction rs with
  | nil => rfl
  | cons r rs ih =>
   simp only [rvL, ih, List.mapM_cons]
   cases s.rv r <;> cases rs.mapM s.rv <;> rfl
 rw [h]; rfl
theorem resV_one {v : Val} : resV (some [v]) = some v := (rfl)
theorem resV_nil : resV (some []) = some (.tu []) := (rfl)
theorem resV_more {v v' : Val} {vs : List Val} : resV (some (v :: v' :: vs)) = some (.tu (v :: v' :: vs)) := (rfl)
theorem rv_t {n : Nat} : s.rv (.t n) = some (s.fin (s.tm n)) := (rfl)
def rvB (s : AS) (agg : Bool) (sz off : Nat) : Option (List Cel) → Option Val
 | some cs => if agg then (if sz ≤ (cs.drop off).length then some (s.fin (.ag ((cs.drop off).take sz))) else none) else (match cs.drop off with | c :: _ => some (s.fin (.one c)) | [] => none)
 | none => none
theorem rvB_true {sz off : Nat} {cs : List Cel} : rvB s true sz off (some cs) = if sz ≤ (cs.drop off).length then some (s.fin (.ag ((cs.drop off).take sz))) else none := (rfl)
def rvS (s : AS) (agg : Bool) (sz : Nat) : Val → Option Val
 | .one (.bx k off) => rvB s agg sz off (s.bx k)
 | _ => none
theorem rvS_bx {agg : Bool} {sz k off : Nat} : rvS s agg sz (.one (.bx k off)) = rvB s agg sz off (s.bx k) := (rfl)
theorem rv_cell {n : Nat} {agg : Bool} {sz : Nat} : s.rv (.cell n agg sz) = rvS s agg sz (s.tm n) := by unfold rvS rvB; simp only [AS.rv]; rfl
def mres (H : Hp) (s : AS) (K : Keep) (R : Hp → Val → Prop) : Option Val → Prop
 | some r => zOk H.rs (s.outH K).rs = true ∧ R (s.outH K) r
 | none => False
theorem mpost_ret {H : Hp} {K : Keep} {rs : List RV} {R : Hp → Val → Prop} : mpost H K rs R .ret s = mres H s K R (s.resK K rs) := by unfold mres; simp only [mpost]; cases s.resK K rs <;> rfl
theorem mpost_nrm {H : Hp} {K : Keep} {rs : List RV} {R : Hp → Val → Prop} : mpost H K rs R .nrm s = mres H s K R (s.resK K rs) := by unfold mres; simp only [mpost]; cases s.resK K rs <;> rfl
theorem mres_some {bs : List (Nat × List Cel)} {ls : List (Nat × Row)} {K : Keep} {R : Hp → Val → Prop} {r : Val} : mres ⟨bs, ls⟩ s K R (some r) = (zOk ls (s.outH K).rs = true ∧ R (s.outH K) r) := (rfl)
theorem outH_eq {ts bs rs : List Nat} : s.outH ⟨ts, bs, rs⟩ = ⟨keepB s ⟨ts, bs, rs, kz⟩ bs, keepR s ⟨ts, bs, rs, kz⟩ rs⟩ := by
 have h2 : ∀ (K : Kp) l, keepB s K l = l.filterMap fun k => (s.bx k).map fun cs => (k, cs.map (s.renC K)) := by
  intro K l; induction l with
  | nil => rfl
  | cons t l ih => simp only [keepB, ih, List.filterMap_cons]; cases s.bx t <;> rfl
 have h3 : ∀ (K : Kp) l, keepR s K l = l.filterMap fun k => (s.rw k).map fun r => (k, { r with ver := K.q k r.ver }) := by
  intro K l; induction l with
  | nil => rfl
  | cons t l ih => simp only [keepR, ih, List.filterMap_cons]; cases s.rw t <;> rfl
 rw [h2, h3]; rfl
theorem mpostS_ret {S : List Nat} {H : Hp} {K : Keep} {rs : List RV} {R : Hp → Val → Prop} : mpostS S H K rs R .ret s = (stOk S s = true ∧ mpost H K rs R .ret s) := (rfl)
theorem mpostS_nrm {S : List Nat} {H : Hp} {K : Keep} {rs : List RV} {R : Hp → Val → Prop} : mpostS S H K rs R .nrm s = (stOk S s = true ∧ mpost H K rs R .nrm s) := (rfl)
def stV : Option Row → Bool
 | some r => r.ver == 0
 | none => true
theorem stV_some {v z : Nat} {E : TypeId} {es : List (List Cel)} : stV (some ⟨v, E, z, es⟩) = decide (v = 0) := (rfl)
theorem stOk_nil : stOk [] s = true := (rfl)
theorem stOk_cons {k : Nat} {l : List Nat} : stOk (k :: l) s = (decide (1000000 ≤ k) && stV (s.rw k) && stOk l s) := by
 unfold stV; simp only [stOk, List.all_cons, XK]; cases s.rw k <;> rfl
def zo1 (z : Nat) : Option Row → Bool
 | some r => r.z == z
 | none => true
theorem zo1_some {z v z' : Nat} {E : TypeId} {es : List (List Cel)} : zo1 z (some ⟨v, E, z', es⟩) = decide (z' = z) := (rfl)
theorem zo1_none {z : Nat} : zo1 z none = true := (rfl)
theorem zOk_nil {l : List (Nat × Row)} : zOk [] l = true := (rfl)
theorem zOk_cons {k v z : Nat} {E : TypeId} {es : List (List Cel)} {l l' : List (Nat × Row)} : zOk ((k, ⟨v, E, z, es⟩) :: l) l' = (zo1 z (tabO l' k) && zOk l l') := by
 unfold zo1; simp only [zOk]; generalize tabO l' k = x; cases x <;> rfl
def rvKL (s : AS) (K : Keep) : List RV → Option (List Val)
 | [] => some []
 | x :: l => rvL.consV (s.rvK K x) (rvKL s K l)
theorem rvKL_nil {K : Keep} : rvKL s K [] = some [] := (rfl)
theorem rvKL_cons {K : Keep} {x : RV} {l : List RV} : rvKL s K (x :: l) = rvL.consV (s.rvK K x) (rvKL s K l) := (rfl)
theorem resK_eq {K : Keep} {rs : List RV} : s.resK K rs = resV (rvKL s K rs) := by
 have h : ∀ rs : List RV, rvKL s K rs = rs.mapM (s.rvK K) := by
  intro rs; induction rs with
  | nil => rfl
  | cons r rs ih =>
   simp only [rvKL, ih, List.mapM_cons]
   cases s.rvK K r <;> cases rs.mapM (s.rvK K) <;> rfl
 rw [h]; rfl
theorem rvK_t {K : Keep} {n : Nat} : s.rvK K (.t n) = some (s.ren (K.at kz) (s.tm n)) := (rfl)
def rvKB (s : AS) (K : Kp) (agg : Bool) (sz off : Nat) : Option (List Cel) → Option Val
 | some cs => if agg then (if sz ≤ (cs.drop off).length then some (s.ren K (.ag ((cs.drop off).take sz))) else none) else rvKC (cs.drop off)
 | none => none
where rvKC : List Cel → Option Val
 | c :: _ => some (s.ren K (.one c))
 | [] => none
theorem rvKC_cons {K : Kp} {c : Cel} {cs : List Cel} : rvKB.rvKC s K (c :: cs) = some (s.ren K (.one c)) := (rfl)
theorem rvKB_true {K : Kp} {sz off : Nat} {cs : List Cel} : rvKB s K true sz off (some cs) = if sz ≤ (cs.drop off).length then some (s.ren K (.ag ((cs.drop off).take sz))) else none := by simp [rvKB]
theorem rvKB_false {K : Kp} {sz off : Nat} {cs : List Cel} : rvKB s K false sz off (some cs) = rvKB.rvKC s K (cs.drop off) := by simp [rvKB]
def rvKS (s : AS) (K : Kp) (agg : Bool) (sz : Nat) : Val → Option Val
 | .one (.bx k off) => rvKB s K agg sz off (s.bx k)
 | _ => none
theorem rvKS_bx {K : Kp} {agg : Bool} {sz k off : Nat} : rvKS s K agg sz (.one (.bx k off)) = rvKB s K agg sz off (s.bx k) := (rfl)
theorem rvK_cell {K : Keep} {n : Nat} {agg : Bool} {sz : Nat} : s.rvK K (.cell n agg sz) = rvKS s (K.at kz) agg sz (s.tm n) := by
 unfold rvKS rvKB rvKB.rvKC; simp only [AS.rvK]; rfl
theorem initM_eq {bs : List (Nat × List Cel)} {rs : List (Nat × Row)} {args : List Val} : initM ⟨bs, rs⟩ args = ⟨tabV (slots 0 args), tabO bs, tabO rs⟩ := (rfl)
theorem slots_nil {k : Nat} : slots k [] = [] := (rfl)
theorem slots_cons {k : Nat} {v : Val} {l : List Val} : slots k (v :: l) = (k, v) :: slots (k + 1) l := (rfl)
theorem initSt_none {args : List Val} : initSt none args = ⟨tabV (slots 0 args), tabO [], tabO []⟩ := (rfl)
theorem initSt_some {cs : List Cel} {args : List Val} : initSt (some cs) args = ⟨tabV ((0, .one (.bx 0 0)) :: slots 1 args), tabO [(0, cs)], tabO []⟩ := (rfl)
def chE (s : AS) (d : Option Nat) : Val → SRes
 | .one (.mp _) => .bad
 | .one (.os _ _ _) => .bad
 | .one (.ws _ _ _ _) => .bad
 | .one (.bx _ _) => .bad
 | .one (.ow _ _) => .bad
 | .one (.op _ _ _ _) => .bad
 | _ => .ok (s.put d .any)
def chK (s : AS) (d : Option Nat) (k : Nat) : Val → SRes
 | .one (.bx j _) => if j = k then .ok (s.put d .any) else .bad
 | .one (.op _ _ _ _) => if k = RWK then .ok (s.put d .any) else .bad
 | _ => .bad
theorem e_chkE {d : Option Nat} {x : Opd} : estep d (.chk x none) s = chE s d (s.ev x) := by
 rw [estep]; rfl
theorem e_chkK {d : Option Nat} {x : Opd} {k : Nat} : estep d (.chk x (some k)) s = chK s d k (s.ev x) := by
 rw [estep]; rfl
theorem chE_ep {d : Option Nat} {cs : List Cel} : chE s d (.one (.ep cs)) = .ok (s.put d .any) := (rfl)
theorem chE_fm {d : Option Nat} {kc : Nat} {es : List (List Cel)} : chE s d (.one (.fm kc es)) = .ok (s.put d .any) := (rfl)
theorem chE_sl {d : Option Nat} {fr : Bool} {z : Nat} {es : List (List Cel)} : chE s d (.one (.sl fr z es)) = .ok (s.put d .any) := (rfl)
theorem chE_g {d : Option Nat} {v : Value} : chE s d (.one (.g v)) = .ok (s.put d .any) := (rfl)
theorem chK_op {d : Option Nat} {a b c e : Nat} : chK s d 999999999 (.one (.op a b c e)) = .ok (s.put d .any) := (rfl)
theorem chK_bx {d : Option Nat} {k j off : Nat} : chK s d k (.one (.bx j off)) = if j = k then .ok (s.put d .any) else .bad := (rfl)
theorem isD_g {v : Value} : (Cel.g v).isD = true := (rfl)
theorem isD_sl {fr : Bool} {z : Nat} {es : List (List Cel)} : (Cel.sl fr z es).isD = true := (rfl)
theorem isD_any : Cel.any.isD = true := (rfl)
theorem freshV_one {c : Cel} : freshV (.one c) = freshC c := (rfl)
theorem freshV_ag {cs : List Cel} : freshV (.ag cs) = cs.all freshC := (rfl)
theorem freshC_g {v : Value} : freshC (.g v) = true := (rfl)
theorem freshC_sl {z : Nat} {es : List (List Cel)} : freshC (.sl true z es) = true := (rfl)
theorem wr_eq {cs news : List Cel} {off : Nat} : wr cs off news = cs.take off ++ news ++ cs.drop (off + news.length) := (rfl)
end
theorem upd_apply {α : Type} (f : Nat → α) (k : Nat) (v : α) (j : Nat) : upd f k v j = if j = k then v else f j := (rfl)
theorem tabV_cons (j : Nat) (v : Val) (l : List (Nat × Val)) (n : Nat) : tabV ((j, v) :: l) n = if n = j then v else tabV l n := (rfl)
theorem tabV_nil (n : Nat) : tabV [] n = .any := (rfl)
theorem tabO_cons {α : Type} (j : Nat) (v : α) (l : List (Nat × α)) (n : Nat) : tabO ((j, v) :: l) n = if n = j then some v else tabO l n := (rfl)
theorem tabO_nil {α : Type} (n : Nat) : (tabO ([] : List (Nat × α)) n) = none := (rfl)
theorem getD_map_lt {α β : Type} (f : α → β) (l : List α) (i : Nat) (d : β) (d' : α) (h : i < l.length) : (l.map f).getD i d = f (l.getD i d') := by
 simp [List.getD_eq_getElem?_getD, h]
theorem wrap_i64 (n : Int) (h1 : -9223372036854775808 ≤ n) (h2 : n ≤ 9223372036854775807) : IntKind.i64.wrap n = n := IntWalk.i64_in n ⟨h1, h2⟩
theorem wrap_u64 (n : Int) (h1 : 0 ≤ n) (h2 : n ≤ 18446744073709551615) : IntKind.u64.wrap n = n := IntWalk.u64_in n ⟨h1, h2⟩
end
attribute [go_sem] chE_fm mcel_0 mcel_4 mcel_16_2 mcel_20_2 mcel_16_3 mcel_20_3 decV_0 decV_4 decV_16 decV_20 decA_2 decA_3 zeroC_f keyOk_int20 keyOk_str16
attribute [go_sem] capB_bx capB_g capB_ep dataV_fn clG_g consC_ep fnC_fn fnC_mv clG_mv clM_mv viewC_mv passC_mv renC_mv chS_i e_chr rg_chr bldrS_none e_bld rg_bld bldK_hi bldK_lt rg_chk e_chkE e_chkK chE_ep chE_sl chE_g chK_bx chK_op clG_P clY_X rg_callx ex_seq ex_block ex_skip_code ex_skip_blk ex_skip_lp ex_skip_nil ex_exit_code ex_exit_blk ex_exit_lp ex_ret_code ex_ret_blk ex_ret_lp ex_ret_nil ex_reg ex_cond cnd_b rg_nil sg_ok gdG_b rg_guard pkG_b rg_pick rg_mv rg_alloc rg_box rg_build rg_bslice rg_load rg_store rg_nilchk rg_bin rg_eqs rg_un rg_conv rg_mkfn rg_slc rg_fadr rg_fld rg_iadr rg_idx rg_extr rg_len rg_slen rg_mnx rg_append rg_call ev_t ev_v ev_f ev_b ev_s strV_g tof_strE strE_len ofV_int ofV_bool ofV_string ofV_slice ofV_ptr ofV_map ofV_nilF ofV_nilI put_some put_none fix_eq e_mv allocS_none e_alloc boxS_some e_box vcells_one vcells_ag bldS_some bldL_nil bldL_cons agS_some e_build bslS_some cellsL_nil cellsL_cons consL_some e_bslice ldB_some ldE_some ldR_some ldS_bx ldS_ep ldS_op e_load loadS_true loadS_false dat_g dat_sl dat_any stB_some stE_some stR_some stS_bx stS_op e_store nlR_some nlS_bx nlS_ep nlS_op e_nilchk e_bin bin_add bin_sub bin_mul bin_quo bin_rem bin_eql bin_neq bin_lss bin_leq bin_gtr bin_geq bin_shr bin_and bin_or bin_xor bin_shl bins_add bins_eql bins_neq bins_lss bins_leq bins_gtr bins_geq e_un un_not un_neg e_conv cvS_int capL_nil capL_cons consC_bx consC_g mkS_some e_mkfn e_slc slS_nn slS_ln slS_nh slS_lh slS_ow wsR_some viewC_ws vwW_some faR_some faS_bx faS_ep faS_op e_fadr flC_some flS_true flS_false e_fld iaR_some iaS_sl iaS_ow e_iadr e_idx ixS_s e_extr exS_tu exV_some lnR_some e_len lnS_sl lnS_nil lnS_ow e_slen slnS_s e_mnx mxS_max mxS_min apR_some apS_ow e_append view_one view_ag viewC_g viewC_any viewC_sl viewC_ep viewC_fn vwR_some viewC_ow vwB_some viewC_bx viewC0_bx viewC0_g viewC0_ep dataV_g dataV_sl dataV_ow dataV_any fin_one fin_ag finC_g finC_any finC_sl finC_ep fnR_some finC_ow keepT_nil keepT_cons keepB_nil keepB_cons kpB_some kpB_none keepR_nil keepR_cons kpR_some kpR_none keep_some keep_none kv_lo kv_hi0 kv_hi1 kz_eq keep_at mpostS_ret mpostS_nrm stV_some stOk_nil stOk_cons ren_one ren_ag ren_tu ren_any renC_g renC_sl renC_ep renC_any renC_bx rnR_some renC_ow renC_op renC_fn capIn_bx capIn_g capIn_ep ex_own' ownG_nil ex_ownb ownH_nil clX_some plainV_one plainV_ag plainC_g plainC_sl plainC_ep plainC_any plainC_bx plainC_ow plainC_op plainC_fn0 fpost_ret fpost_nrm resG_some fpostx_ret fpostx_nrm resX_some rvL_nil rvL_cons consV_some res_eq resV_one resV_nil resV_more rv_t rvB_true rvS_bx rv_cell slots_nil slots_cons initSt_none initSt_some isD_g isD_sl isD_any freshV_one freshV_ag freshC_g freshC_sl wr_eq upd_apply tabV_cons tabV_nil tabO_cons tabO_nil wrap_i64 wrap_u64 List.all_cons List.all_nil List.cons_append List.nil_append List.append_nil List.drop_succ_cons List.drop_zero List.drop_nil List.take_succ_cons List.take_zero List.take_nil List.length_cons List.length_nil List.getElem?_cons_zero List.getElem?_cons_succ if_true if_false decide_eq_true_eq decide_eq_false_iff_not Bool.and_true Bool.true_and Bool.and_self and_true true_and and_self List.mem_cons List.not_mem_nil or_false false_or or_true true_or forall_const Bool.true_eq_false Bool.false_eq_true false_implies implies_true imp_self Bool.not_true Bool.not_false Nat.zero_add Nat.add_zero not_false_eq_true List.map_cons List.map_nil Option.map_some Option.map_none
attribute [go_sem high] cnd_true cnd_false gdG_tu gdG_tt gdG_ff gdG_tf gdG_ft pkG_true pkG_false
section
variable {P : Program} {Q : AX → AS → Prop} {s : AS} {k : List KI} {kp : Option Keep} {l : List GI}
/-- What a step needs. -/
def NEED (p X : Prop) : Prop := p ∧ X
theorem NEED_ok {p X : Prop} (h : p) : NEED p X = X := propext ⟨fun h => h.2, fun h' => ⟨h, h'⟩⟩
theorem NEED_true {X : Prop} : NEED True X = X := propext ⟨fun h => h.2, fun h' => ⟨trivial, h'⟩⟩
theorem nd {p X : Prop} (h : p) (hX : p → X) : NEED p X := ⟨h, hX h⟩
theorem sg_need' {p : Prop} [Decidable p] : sg P (.need p s) l kp k Q = NEED p (rg P l kp k Q s) := (rfl)
theorem sg_need_ok {p : Prop} [Decidable p] (h : p) : sg P (.need p s) l kp k Q = rg P l kp k Q s := by rw [sg_need]; exact propext ⟨fun h => h.2, fun h' => ⟨h, h'⟩⟩
theorem cnd_dt {p : Prop} [Decidable p] {a b : AC} (h : p) : cnd P (.one (.g (.bool (decide p)))) a b k Q s = ex P a k Q s := by rw [decide_eq_true h, cnd_true]
theorem cnd_df {p : Prop} [Decidable p] {a b : AC} (h : ¬p) : cnd P (.one (.g (.bool (decide p)))) a b k Q s = ex P b k Q s := by rw [decide_eq_false h, cnd_false]
theorem gdG_dtt {p : Prop} [Decidable p] {g : Nat} {d : Option Nat} {i : Ins} (h : p) : gdG P (.one (.g (.bool (decide p)))) g true d i l kp k Q s = rg P (⟨d, none, i⟩ :: l) kp k Q (s.fix g true) := by rw [decide_eq_true h, gdG_tt]
theorem gdG_dff {p : Prop} [Decidable p] {g : Nat} {d : Option Nat} {i : Ins} (h : ¬p) : gdG P (.one (.g (.bool (decide p)))) g false d i l kp k Q s = rg P (⟨d, none, i⟩ :: l) kp k Q (s.fix g false) := by rw [decide_eq_false h, gdG_ff]
theorem gdG_dtf {p : Prop} [Decidable p] {g : Nat} {d : Option Nat} {i : Ins} (h : p) : gdG P (.one (.g (.bool (decide p)))) g false d i l kp k Q s = rg P l kp k Q ((s.fix g true).put d (.tu [])) := by rw [decide_eq_true h, gdG_tf]
theorem gdG_dft {p : Prop} [Decidable p] {g : Nat} {d : Option Nat} {i : Ins} (h : ¬p) : gdG P (.one (.g (.bool (decide p)))) g true d i l kp k Q s = rg P l kp k Q ((s.fix g false).put d (.tu [])) := by rw [decide_eq_false h, gdG_ft]
theorem pkG_dt {p : Prop} [Decidable p] {a b : Val} {d : Option Nat} (h : p) : pkG P (.one (.g (.bool (decide p)))) a b d l kp k Q s = rg P l kp k Q (s.put d a) := by rw [decide_eq_true h, pkG_true]
theorem pkG_df {p : Prop} [Decidable p] {a b : Val} {d : Option Nat} (h : ¬p) : pkG P (.one (.g (.bool (decide p)))) a b d l kp k Q s = rg P l kp k Q (s.put d b) := by rw [decide_eq_false h, pkG_false]
theorem dec_and {p q : Prop} [Decidable p] [Decidable q] : (decide p && decide q) = decide (p ∧ q) := by simp
theorem not_dec {p : Prop} [Decidable p] : (!decide p) = decide (¬p) := by simp
end
attribute [go_sem high] NEED_true NEED_ok sg_need_ok cnd_dt cnd_df gdG_dtt gdG_dff gdG_dtf gdG_dft pkG_dt pkG_df
attribute [go_sem] renC_os iaQ_some iaS_os lnQ_some lnS_os
attribute [go_sem] mlkS_fmf mlkS_fmt zeroC_b zeroC_i zeroC_s mpR_some viewC_fm viewC0_fm dataV_fm finC_fm renC_fm plainC_fm passC_fm backC_fm dat_fm mpF_some nilC_eq rg_aadr rg_ssub aaS_bx aaS_ep e_aadr e_ssub ssS_nn ssS_ln ssS_nh ssS_lh rg_mkm rg_mup rg_mlk mkmR_none e_mkm mupR_some mupS_mp e_mup mlkR_f mlkR_t mlkS_mp e_mlk keyOk_int keyOk_str mget_ii mput_ii getD_gi isSome_gi renC_mp viewC_mp finC_mp dataV_mp plainC_mp passC_mp backC_mp rg_bslr bsrS_some bsrR_none e_bslr rg_sfx rg_trn rg_clr rg_mkr sfR_some sfS_ow e_sfx tnR_some tnS_ow e_trn clrR_some clrS_os e_clr mkR_none mkrS_int e_mkr apR_some apS_ow src_t src_f src_nil srcR_some src_ow datE_nil datE_cons tofE_nil tofE_cons tof_g tof_sl tof_any frE_nil frE_cons frE_app datE_app tofE_app fnR_some XK_eq rnO_some renC_ow hpB_nil hpB_cons hpB1_some hpR_nil hpR_cons hpR1_some hp_eq passV_one passV_ag passV_any passC_g passC_sl passC_ep passC_any passC_bx psR_some passC_ow passC_op passC_fn passC0_g passC0_bx nv_eq nvR_some nvR_none after_eq putB_nil putB_cons putR_nil putR_cons backC_g backC_sl backC_ep backC_any backC_bx backC_ow backC_op backC_fn backV_one backV_ag backV_any backT_nil backT_one backT_ag backT_any backV_tu mpost_ret mpost_nrm mres_some outH_eq zo1_some zo1_none zOk_nil zOk_cons rvKL_nil rvKL_cons resK_eq rvK_t rvKC_cons rvKB_true rvKB_false rvKS_bx rvK_cell initM_eq rg_callm clM_P
attribute [go_sem] not_dec ex_ty tyV_nil tyV_sl dec_and sg_need' rg_eqs e_eqs eqS_t eqS_f eqV_ag eqV_one eqL_nil andO_some eqL_cons eqK_i eqK_b eqK_s eqK_nsc eqK_nsn eqK_npb eqK_npe eqK_npn eqK_nin eqK_nii
section
variable {P : Program} {f : FuncId} {fn : Func} {C : AC} {rs : List RV}
/-- A function's loaded code is right for the layer, and compiles. -/
def knT (P : Program) (fn : Func) (A : List Ann) : Bool × Bool × Option (AC × List Ann) × Option (List RV) × Bool := (fn.body.isSome, fn.name == "runtime.NumGoroutine", compileCode P fn.ntmps (fn.body.getD .skip) A, compileRes P fn.results.toList, decide (fn.ntmps ≤ 900000))
abbrev FcT (P : Program) (f : FuncId) (fn : Func) (C : AC) (rs : List RV) : Prop := ∀ {xt : Option (List Cel)} {args : List Val} {R : List Cel → Val → Prop}, (if xt.isSome then 1 else 0) + args.length ≤ fn.ntmps → ex P C [] (fpost xt rs R) (initSt xt args) → FC P f xt args R
abbrev FsT (P : Program) (f : FuncId) (fn : Func) (C : AC) (rs : List RV) : Prop := ∀ {S : List Nat} {H : Hp} {K : Keep} {args : List Val} {R : Hp → Val → Prop}, args.length ≤ fn.ntmps → (∀ p ∈ H.bs, p.1 = 0 ∨ XK ≤ p.1) → (∀ p ∈ H.rs, XK ≤ p.1) → ex P C [] (mpostS S H K rs R) (initM H args) → FCMS P f S H args R
abbrev FmT (P : Program) (f : FuncId) (fn : Func) (C : AC) (rs : List RV) : Prop := ∀ {H : Hp} {K : Keep} {args : List Val} {R : Hp → Val → Prop}, args.length ≤ fn.ntmps → (∀ p ∈ H.bs, p.1 = 0 ∨ XK ≤ p.1) → (∀ p ∈ H.rs, XK ≤ p.1) → ex P C [] (mpost H K rs R) (initM H args) → FCM P f H args R
variable (A : List Ann) (hf : P.funcs[f]? = some fn) (hk : knT P fn A = (true, false, some (C, []), some rs, true))
include hf hk
theorem fc_mk : FcT P f fn C rs := fun hn h => by
 simp only [knT, Prod.mk.injEq] at hk
 obtain ⟨h1, h2, h3, h4, h5⟩ := hk
 obtain ⟨b, hb⟩ := Option.isSome_iff_exists.1 h1
 rw [hb] at h3
 exact fc_of_awp hf hb h2 h3 h4 (of_decide_eq_true h5) hn h
theorem fcms_mk : FsT P f fn C rs := fun hn hkb hkr h => by
 simp only [knT, Prod.mk.injEq] at hk
 obtain ⟨h1, h2, h3, h4, h5⟩ := hk
 obtain ⟨b, hb⟩ := Option.isSome_iff_exists.1 h1
 rw [hb] at h3
 exact fcms_of_awp hf hb h2 h3 h4 (of_decide_eq_true h5) hn hkb hkr h
theorem fcm_mk : FmT P f fn C rs := fun hn hkb hkr h => by
 simp only [knT, Prod.mk.injEq] at hk
 obtain ⟨h1, h2, h3, h4, h5⟩ := hk
 obtain ⟨b, hb⟩ := Option.isSome_iff_exists.1 h1
 rw [hb] at h3
 exact fcm_of_awp hf hb h2 h3 h4 (of_decide_eq_true h5) hn hkb hkr h
end
attribute [go_sem] eq_self decide_true decide_false not_true_eq_false not_false_eq_true
attribute [go_sem_proc] reduceIte reduceCtorEq Nat.reduceEqDiff Nat.reduceAdd Nat.reduceSub Nat.reduceLeDiff
def gi0 : GI := ⟨none, none, .mv (.t 0)⟩
/-- The compiled code, reckoned without a look at what it must hold. -/
def cq (P : Program) (N : Nat) : Code → List Ann → AC × List Ann
 | .region _ ops false, an :: l => (withTys (withOwns (.reg false (ops.toList.map fun o => (compileGI P N an.calls ops o).getD gi0) an.keep) an.owns) an.tys, l)
 | .region _ ops true, an :: l => (withTys (withOwns (.reg true (inter (limit an.lims 0 (ops.toList.map fun o => (compileGI P N an.calls ops o).getD gi0))) an.keep) an.owns) an.tys, l)
 | .seq a b, l => (.seq (cq P N a l).1 (cq P N b (cq P N a l).2).1, (cq P N b (cq P N a l).2).2)
 | .cond c a b, l => (.cond ((opd c).getD (.t 0)) (cq P N a l).1 (cq P N b (cq P N a l).2).1, (cq P N b (cq P N a l).2).2)
 | .block id a, l => (.block id (cq P N a l).1, (cq P N a l).2)
 | .loop a, l => (.loop (cq P N a l).1, (cq P N a l).2)
 | .exit id, l => (.exit id, l)
 | .ret, l => (.ret, l)
 | _, l => (.skip, l)
theorem mapM_getD {α β : Type} {f : α → Option β} (d : β) : ∀ {l : List α} {gs : List β}, l.mapM f = some gs → l.map (fun o => (f o).getD d) = gs
 | [], gs, h => by simp at h; subst h; rfl
 | a :: l, gs, h => by
  simp only [List.mapM_cons, Option.bind_eq_bind, Option.bind_eq_some_iff, Option.pure_def, Option.some.injEq] at h
  obtain ⟨b, hb, bs, hbs, rfl⟩ := h
  simp [hb, mapM_getD d hbs]
theorem cq_of {P : Program} {N : Nat} : ∀ (c : Code) (l : List Ann) (x : AC × List Ann), compileCode P N c l = some x → cq P N c l = x := by
 intro c
 induction c with
 | region id ops d =>
  intro l x h
  cases d <;> cases l <;> simp only [compileCode] at h <;> first | (cases h; done) | skip
  all_goals (
   split at h
   ·rename_i gs hg
    have := mapM_getD gi0 hg
    simp only [cq, this]
    first | exact Option.some.inj h | (split at h <;> first | exact Option.some.inj h | cases h)
   ·cases h)
 | seq a b iha ihb =>
  intro l x h
  simp only [compileCode] at h
  split at h
  ·rename_i y l1 h1
   split at h
   ·rename_i z l2 h2
    simp only [cq, iha _ _ h1, ihb _ _ h2]
    exact Option.some.inj h
   ·cases h
  ·cases h
 | cond c a b iha ihb =>
  intro l x h
  simp only [compileCode] at h
  split at h
  ·rename_i c' y l1 h0 h1
   split at h
   ·rename_i z l2 h2
    simp only [cq, iha _ _ h1, ihb _ _ h2, h0]
    exact Option.some.inj h
   ·cases h
  ·cases h
 | block id a ih =>
  intro l x h
  simp only [compileCode] at h
  split at h
  ·rename_i y l1 h1
   simp only [cq, ih _ _ h1]; exact Option.some.inj h
  ·cases h
 | loop a ih =>
  intro l x h
  simp only [compileCode] at h
  split at h
  ·rename_i y l1 h1
   simp only [cq, ih _ _ h1]; exact Option.some.inj h
  ·cases h
 | skip => intro l x h; exact Option.some.inj h
 | exit id => intro l x h; exact Option.some.inj h
 | ret => intro l x h; exact Option.some.inj h
 | _ => intro l x h; cases h
def cc (P : Program) (fn : Func) (A : List Ann) : AC := (cq P fn.ntmps (fn.body.getD .skip) A).1
def rq (P : Program) (fn : Func) : List RV := (compileRes P fn.results.toList).getD []
def knQ (P : Program) (fn : Func) (A : List Ann) : Bool := fn.body.isSome && !(fn.name == "runtime.NumGoroutine") && (match compileCode P fn.ntmps (fn.body.getD .skip) A with | some (_, []) => true | _ => false) && (compileRes P fn.results.toList).isSome && decide (fn.ntmps ≤ 900000)
theorem kn_of {P : Program} {fn : Func} {A : List Ann} (h : knQ P fn A = true) : knT P fn A = (true, false, some (cc P fn A, []), some (rq P fn), true) := by
 simp only [knQ, Bool.and_eq_true] at h
 obtain ⟨⟨⟨⟨h1, h2⟩, h3⟩, h4⟩, h5⟩ := h
 simp only [knT, Prod.mk.injEq]
 refine ⟨h1, by simpa using h2, ?_, ?_, h5⟩
 ·split at h3
  ·rename_i x hx
   rw [hx, cc, cq_of _ _ _ hx]
  ·cases h3
 ·obtain ⟨rs, hr⟩ := Option.isSome_iff_exists.1 h4
  rw [rq, hr]; rfl
section
variable {P : Program} {f : FuncId} {fn : Func} {C : AC} {rs : List RV} (hf : P.funcs[f]? = some fn) (A : List Ann)
include hf
theorem fcE {xt : Option (List Cel)} {args : List Val} {R : List Cel → Val → Prop} (h : ex P C [] (fpost xt rs R) (initSt xt args)) (hk : knQ P fn A = true := by kernel_rfl) (hr : rq P fn = rs := by conv => lhs; cbv) (hC : cc P fn A = C := by conv => lhs; cbv) (hn : (if xt.isSome then 1 else 0) + args.length ≤ fn.ntmps := by simp +arith) : FC P f xt args R := by
 have := kn_of hk
 rw [hr, hC] at this
 exact fc_mk A hf this hn h
theorem fmE {H : Hp} {args : List Val} {R : Hp → Val → Prop} (K : Keep) (h : ex P C [] (mpost H K rs R) (initM H args)) (hk : knQ P fn A = true := by kernel_rfl) (hr : rq P fn = rs := by conv => lhs; cbv) (hC : cc P fn A = C := by conv => lhs; cbv) (hn : args.length ≤ fn.ntmps := by simp +arith) (hkb : ∀ p ∈ H.bs, p.1 = 0 ∨ XK ≤ p.1 := by simp [XK]) (hkr : ∀ p ∈ H.rs, XK ≤ p.1 := by simp [XK]) : FCM P f H args R := by
 have := kn_of hk
 rw [hr, hC] at this
 exact fcm_mk A hf this hn hkb hkr h
theorem fsE {S : List Nat} {H : Hp} {args : List Val} {R : Hp → Val → Prop} (K : Keep) (h : ex P C [] (mpostS S H K rs R) (initM H args)) (hk : knQ P fn A = true := by kernel_rfl) (hr : rq P fn = rs := by conv => lhs; cbv) (hC : cc P fn A = C := by conv => lhs; cbv) (hn : args.length ≤ fn.ntmps := by simp +arith) (hkb : ∀ p ∈ H.bs, p.1 = 0 ∨ XK ≤ p.1 := by simp [XK]) (hkr : ∀ p ∈ H.rs, XK ≤ p.1 := by simp [XK]) : FCMS P f S H args R := by
 have := kn_of hk
 rw [hr, hC] at this
 exact fcms_mk A hf this hn hkb hkr h
end
section
variable {P : Program} {f : FuncId} {vargs : List Val} {x : Val} {v : Bool} {d : Option Nat} {l : List GI} {kp : Option Keep} {k : List KI} {Q : AX → AS → Prop} {s : AS} {A B : Prop}
theorem qv (hb : B) (h : A = B := by (conv => lhs; simp (maxSteps := 1000000) (disch := omega) only [go_sem]) <;> rfl) : A := h ▸ hb
theorem qt (h : A = True := by (conv => lhs; simp (maxSteps := 1000000) (disch := omega) only [go_sem]) <;> rfl) : A := h ▸ trivial
theorem qc (hf : FC P f none vargs (fun _ r => r = x)) (h2 : rg P l kp k Q (s.put d x)) (h : A = CALL P f vargs v d l kp k Q s := by (conv => lhs; simp (maxSteps := 1000000) (disch := omega) only [go_sem]) <;> rfl) (h1 : freshV x = true ∨ dataRV x = true ∧ v = true := by exact .inl rfl) : A := h ▸ CALL_det hf h1 h2
theorem qvs (hb : B) (h : A = B := by (conv => lhs; simp (maxSteps := 1000000) (disch := (first | omega | assumption)) only [go_sem]) <;> rfl) : A := h ▸ hb
theorem qts (h : A = True := by (conv => lhs; simp (maxSteps := 1000000) (disch := (first | omega | assumption)) only [go_sem]) <;> rfl) : A := h ▸ trivial
theorem qcs (hf : FC P f none vargs (fun _ r => r = x)) (h2 : rg P l kp k Q (s.put d x)) (h : A = CALL P f vargs v d l kp k Q s := by (conv => lhs; simp (maxSteps := 1000000) (disch := (first | omega | assumption)) only [go_sem]) <;> rfl) (h1 : freshV x = true ∨ dataRV x = true ∧ v = true := by exact .inl rfl) : A := h ▸ CALL_det hf h1 h2
end
def aM (b r : List Nat) (l : List (List Nat)) : List Ann := l.map fun t => aN t b r
def aL (l : List (List Nat)) : List Ann := l.map fun t => aN t [] []
end Go.Ai

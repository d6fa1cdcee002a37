
/-
 Generators, run with what they may draw: both the code and a model of it.
-/
import Derived.Test.YtdhkejcldipbmaaGreatDoorBas
import Derived.Test.YtdhkejcldipbmaaGreatDoorAiY
namespace Go.Proofs.YtdhkejcldipbmaaGreatDoor
open Go Go.Ai Go.Proofs
set_option linter.unusedSimpArgs false
set_option linter.unusedVariables false
set_option maxHeartbeats 4000000
/-- What is drawn: all are gone through, or one stands for all. -/
inductive Md where
 | ret (v : Val)
 | br (f : FuncId) (args vs : List Val) (k : Val → Md)
 | str (f : FuncId) (args : List Val) (vs : List ByteArray) (k : ByteArray → Md)
 | int (f : FuncId) (args : List Val) (D : Int → Prop) (k : Int → Md)
 | boo (f : FuncId) (args : List Val) (k : Bool → Md)
 | clk (f : FuncId) (args : List Val) (D : List (List Cel) → Prop) (k : List (List Cel) → Md)
def exMd : Md → Val → Prop
 | .ret v, r => r = v
 | .br _ _ vs k, r => ∃ v ∈ vs, exMd (k v) r
 | .str _ _ vs k, r => ∃ e ∈ vs, exMd (k e) r
 | .int _ _ D k, r => ∃ x, D x ∧ exMd (k x) r
 | .boo _ _ k, r => ∃ x, exMd (k x) r
 | .clk _ _ D k, r => ∃ x, D x ∧ exMd (k x) r
def GenB (P : Program) (c : Nat) (f : FuncId) (args : List Val) (R : Val → Prop) : Prop := (∃ r, R r) ∧ ∃ n, n ≤ c ∧ Gen P f args n R
def okMd (P : Program) (c : Nat) : Md → Prop
 | .ret _ => True
 | .br f args vs k => GenB P c f args (fun r => r ∈ vs) ∧ ∀ v ∈ vs, okMd P c (k v)
 | .str f args vs k => GenB P c f args (fun r => ∃ e ∈ vs, r = sv e) ∧ ∀ e ∈ vs, okMd P c (k e)
 | .int f args D k => GenB P c f args (fun r => ∃ x, D x ∧ r = iv x) ∧ ∀ x, D x → okMd P c (k x)
 | .boo f args k => GenB P c f args (fun r => ∃ x, r = bv x) ∧ ∀ x, okMd P c (k x)
 | .clk f args D k => GenB P c f args (fun r => ∃ x, D x ∧ r = .one (.sl true 2 x)) ∧ ∀ x, D x → okMd P c (k x)
/-- What stands for what is drawn, and where the stream stands. -/
structure Ev where
 P : Nat → Int
 E : Nat → ByteArray
 I : Nat → Int
 B : Nat → Bool
 C : Nat → List (List Cel)
def Ev.tl (e : Ev) : Ev := ⟨fun n => e.P (n + 1), fun n => e.E (n + 1), fun n => e.I (n + 1), fun n => e.B (n + 1), fun n => e.C (n + 1)⟩
def cons0 {α : Type} (a : α) (f : Nat → α) : Nat → α
 | 0 => a
 | n + 1 => f n
def Ev.cons (e : Ev) (p : Int) (x : ByteArray) (i : Int) (b : Bool) (c : List (List Cel)) : Ev := ⟨cons0 p e.P, cons0 x e.E, cons0 i e.I, cons0 b e.B, cons0 c e.C⟩
inductive Ot where
 | e
 | v (cs : List Cel) (xs : List Val)
 | p (a b : Ot)
def goL (go : Val → Option Ot) : List Val → Option Ot
 | [] => some .e
 | v :: l => match go v, goL go l with
  | some a, some b => some (.p a b)
  | _, _ => none
def exL (go : Val → Ot) : List Val → Ot
 | [] => .e
 | v :: l => .p (go v) (exL go l)
theorem goL_at {go : Val → Option Ot} {ex : Val → Ot} : ∀ {l : List Val}, goL go l = some (exL ex l) → ∀ v ∈ l, go v = some (ex v)
 | [], _, v, hv => by cases hv
 | a :: l, h, v, hv => by
  simp only [goL, exL] at h
  split at h
  ·rename_i x y hx hy
   injection h with h
   injection h with h1 h2
   subst h1; subst h2
   rcases List.mem_cons.1 hv with rfl | hv
   ·exact hx
   ·exact goL_at hy v hv
  ·cases h
def hdO (cs : List Cel) (args : List Val) : Option Ot → Option Ot
 | some o => some (.p (.v cs args) o)
 | none => none
theorem hdO_eq {cs cs' : List Cel} {args args' : List Val} {o : Option Ot} {o' : Ot} (h : hdO cs args o = some (.p (.v cs' args') o')) : cs = cs' ∧ args = args' ∧ o = some o' := by
 cases o with
 | none => cases h
 | some x =>
  simp only [hdO, Option.some.injEq, Ot.p.injEq, Ot.v.injEq] at h
  exact ⟨h.1.1, h.1.2, by rw [h.2]⟩
section
variable (L : List Int) (rs : List RV) (xt : List Cel)
/-- The code's answers. -/
def chkL : Nat → Rn → Md → Ev → Option Ot
 | _, .leaf e s, .ret _, ev => (endF rs (some xt) (some (e, s))).map fun x => .v x.1 [x.2]
 | n + 1, .ask f cs args k, .br g _ vs kk, ev => if f = g then hdO cs args (goL (fun v => chkL n (k (strm L (ev.P 1)) v) (kk v) ev.tl) vs) else none
 | n + 1, .ask f cs args k, .str g _ _ kk, ev => if f = g then hdO cs args (chkL n (k (strm L (ev.P 1)) (sv (ev.E 0))) (kk (ev.E 0)) ev.tl) else none
 | n + 1, .ask f cs args k, .int g _ _ kk, ev => if f = g then hdO cs args (chkL n (k (strm L (ev.P 1)) (iv (ev.I 0))) (kk (ev.I 0)) ev.tl) else none
 | n + 1, .ask f cs args k, .boo g _ kk, ev => if f = g then hdO cs args (chkL n (k (strm L (ev.P 1)) (bv (ev.B 0))) (kk (ev.B 0)) ev.tl) else none
 | n + 1, .ask f cs args k, .clk g _ _ kk, ev => if f = g then hdO cs args (chkL n (k (strm L (ev.P 1)) (.one (.sl true 2 (ev.C 0)))) (kk (ev.C 0)) ev.tl) else none
 | _, _, _, _ => none
/-- The model's. -/
def chkR : Md → Ev → Ot
 | .ret v, ev => .v (strm L (ev.P 0)) [v]
 | .br _ args vs kk, ev => .p (.v (strm L (ev.P 0)) args) (exL (fun v => chkR (kk v) ev.tl) vs)
 | .str _ args _ kk, ev => .p (.v (strm L (ev.P 0)) args) (chkR (kk (ev.E 0)) ev.tl)
 | .int _ args _ kk, ev => .p (.v (strm L (ev.P 0)) args) (chkR (kk (ev.I 0)) ev.tl)
 | .boo _ args kk, ev => .p (.v (strm L (ev.P 0)) args) (chkR (kk (ev.B 0)) ev.tl)
 | .clk _ args _ kk, ev => .p (.v (strm L (ev.P 0)) args) (chkR (kk (ev.C 0)) ev.tl)
end
def ev0 (p : Int) : Ev := ⟨fun _ => p, fun _ => default, fun _ => 0, fun _ => false, fun _ => []⟩
theorem ask_ok {P : Program} {f : FuncId} {args : List Val} {R : Val → Prop} {L : List Int} {c : Nat} {p B : Int} {k : List Cel → Val → Rn} {Q : AX → AS → Prop} (hL : ∀ x ∈ L, I64 x) (hl : L.length ≤ 9223372036854775807) (h0 : 0 ≤ p) (hp : p ≤ B) (hB : B + c ≤ 4611686018427387904)
  (hG : GenB P c f args R) (h : ∀ p' r, p ≤ p' → p' ≤ B + c → R r → wpR P (k (strm L p') r) Q) : wpR P (.ask f (strm L p) args k) Q := by
 obtain ⟨⟨r, hr⟩, n, hn, hg⟩ := hG
 refine ⟨_, hg L p hL hl h0 (by omega), ⟨strm L p, r, ⟨p, by omega, by omega, rfl⟩, hr⟩, ?_⟩
 rintro cs r ⟨⟨p', h1, h2, rfl⟩, h3⟩
 exact h p' r h1 (by omega) h3
theorem chk_ok {P : Program} {L : List Int} {rs : List RV} {xt : List Cel} {c : Nat} (hL : ∀ x ∈ L, I64 x) (hl : L.length ≤ 9223372036854775807) :
  ∀ (n : Nat) (T : Rn) (m : Md) (p B : Int), okMd P c m → 0 ≤ p → p ≤ B → B + (n * c : Nat) ≤ 4611686018427387904 → (∀ ev : Ev, ev.P 0 = p → chkL L rs xt n T m ev = some (chkR L m ev)) →
   wpR P T (fun e s => ∃ cs r, endF rs (some xt) (some (e, s)) = some (cs, r) ∧ (∃ q, p ≤ q ∧ q ≤ B + (n * c : Nat) ∧ cs = strm L q) ∧ exMd m r) := by
 intro n
 induction n with
 | zero =>
  intro T m p B hok h0 hp hB h
  have h1 := h (ev0 p) rfl
  cases m <;> cases T <;> simp only [chkL, reduceCtorEq] at h1
  rename_i v e s
  obtain ⟨⟨cs, r⟩, h2, h3⟩ := Option.map_eq_some_iff.1 h1
  simp only [chkR, Ot.v.injEq, List.cons.injEq, and_true] at h3
  exact ⟨cs, r, h2, ⟨p, Int.le_refl _, by omega, h3.1⟩, h3.2⟩
 | succ n ih =>
  intro T m p B hok h0 hp hB h
  have h1 := h (ev0 p) rfl
  have hmono : ∀ {T : Rn} {m' m : Md} {p' : Int}, p ≤ p' → (∀ r, exMd m' r → exMd m r) → wpR P T (fun e s => ∃ cs r, endF rs (some xt) (some (e, s)) = some (cs, r) ∧ (∃ q, p' ≤ q ∧ q ≤ B + c + (n * c : Nat) ∧ cs = strm L q) ∧ exMd m' r) →
    wpR P T (fun e s => ∃ cs r, endF rs (some xt) (some (e, s)) = some (cs, r) ∧ (∃ q, p ≤ q ∧ q ≤ B + ((n + 1) * c : Nat) ∧ cs = strm L q) ∧ exMd m r) := fun {T m' m p'} hpp he => wpR_mono (by
   rintro e s ⟨cs, r, h1, ⟨q, h2, h3, h4⟩, h5⟩
   exact ⟨cs, r, h1, ⟨q, by omega, by rw [Nat.succ_mul, Int.natCast_add]; omega, h4⟩, he r h5⟩) T
  have hB' : B + c + (n * c : Nat) ≤ 4611686018427387904 := by rw [Nat.succ_mul, Int.natCast_add] at hB; omega
  have hB0 : B + c ≤ 4611686018427387904 := by omega
  cases m with
  | ret v =>
   cases T <;> simp only [chkL, reduceCtorEq] at h1
   rename_i e s
   obtain ⟨⟨cs, r⟩, h2, h3⟩ := Option.map_eq_some_iff.1 h1
   simp only [chkR, Ot.v.injEq, List.cons.injEq, and_true] at h3
   exact ⟨cs, r, h2, ⟨p, Int.le_refl _, by omega, h3.1⟩, h3.2⟩
  | br g a vs kk =>
   cases T <;> simp only [chkL, reduceCtorEq] at h1
   rename_i f cs args k
   split at h1
   ·rename_i hf; subst hf
    obtain ⟨rfl, rfl, _⟩ := hdO_eq h1
    refine ask_ok hL hl h0 hp hB0 hok.1 fun p' r hp0 hpB hr => hmono (m' := kk r) hp0 (fun x hx => ⟨r, hr, hx⟩) (ih _ _ p' (B + c) (hok.2 r hr) (Int.le_trans h0 hp0) hpB hB' fun ev hev => ?_)
    have h2 := h (ev.cons p default 0 false []) rfl
    simp only [chkL, if_true] at h2
    obtain ⟨_, _, h3⟩ := hdO_eq h2
    have h4 := goL_at h3 r hr
    have e : (ev.cons p default 0 false []).P 1 = p' := hev
    rw [e] at h4
    exact h4
   ·cases h1
  | str g a vs kk =>
   cases T <;> simp only [chkL, reduceCtorEq] at h1
   rename_i f cs args k
   split at h1
   ·rename_i hf; subst hf
    obtain ⟨rfl, rfl, _⟩ := hdO_eq h1
    refine ask_ok hL hl h0 hp hB0 hok.1 fun p' r hp0 hpB hr => ?_
    obtain ⟨x, hx, rfl⟩ := hr
    refine hmono (m' := kk x) hp0 (fun y hy => ⟨x, hx, hy⟩) (ih _ _ p' (B + c) (hok.2 x hx) (Int.le_trans h0 hp0) hpB hB' fun ev hev => ?_)
    have h2 := h (ev.cons p x 0 false []) rfl
    simp only [chkL, if_true] at h2
    obtain ⟨_, _, h3⟩ := hdO_eq h2
    have e : (ev.cons p x 0 false []).P 1 = p' := hev
    rw [e] at h3
    exact h3
   ·cases h1
  | int g a D kk =>
   cases T <;> simp only [chkL, reduceCtorEq] at h1
   rename_i f cs args k
   split at h1
   ·rename_i hf; subst hf
    obtain ⟨rfl, rfl, _⟩ := hdO_eq h1
    refine ask_ok hL hl h0 hp hB0 hok.1 fun p' r hp0 hpB hr => ?_
    obtain ⟨x, hx, rfl⟩ := hr
    refine hmono (m' := kk x) hp0 (fun y hy => ⟨x, hx, hy⟩) (ih _ _ p' (B + c) (hok.2 x hx) (Int.le_trans h0 hp0) hpB hB' fun ev hev => ?_)
    have h2 := h (ev.cons p default x false []) rfl
    simp only [chkL, if_true] at h2
    obtain ⟨_, _, h3⟩ := hdO_eq h2
    have e : (ev.cons p default x false []).P 1 = p' := hev
    rw [e] at h3
    exact h3
   ·cases h1
  | boo g a kk =>
   cases T <;> simp only [chkL, reduceCtorEq] at h1
   rename_i f cs args k
   split at h1
   ·rename_i hf; subst hf
    obtain ⟨rfl, rfl, _⟩ := hdO_eq h1
    refine ask_ok hL hl h0 hp hB0 hok.1 fun p' r hp0 hpB hr => ?_
    obtain ⟨x, rfl⟩ := hr
    refine hmono (m' := kk x) hp0 (fun y hy => ⟨x, hy⟩) (ih _ _ p' (B + c) (hok.2 x) (Int.le_trans h0 hp0) hpB hB' fun ev hev => ?_)
    have h2 := h (ev.cons p default 0 x []) rfl
    simp only [chkL, if_true] at h2
    obtain ⟨_, _, h3⟩ := hdO_eq h2
    have e : (ev.cons p default 0 x []).P 1 = p' := hev
    rw [e] at h3
    exact h3
   ·cases h1
  | clk g a D kk =>
   cases T <;> simp only [chkL, reduceCtorEq] at h1
   rename_i f cs args k
   split at h1
   ·rename_i hf; subst hf
    obtain ⟨rfl, rfl, _⟩ := hdO_eq h1
    refine ask_ok hL hl h0 hp hB0 hok.1 fun p' r hp0 hpB hr => ?_
    obtain ⟨x, hx, rfl⟩ := hr
    refine hmono (m' := kk x) hp0 (fun y hy => ⟨x, hx, hy⟩) (ih _ _ p' (B + c) (hok.2 x hx) (Int.le_trans h0 hp0) hpB hB' fun ev hev => ?_)
    have h2 := h (ev.cons p default 0 false x) rfl
    simp only [chkL, if_true] at h2
    obtain ⟨_, _, h3⟩ := hdO_eq h2
    have e : (ev.cons p default 0 false x).P 1 = p' := hev
    rw [e] at h3
    exact h3
   ·cases h1
/-- A generator, by a model of it. -/
theorem gen_md {P : Program} {isA : FuncId → Bool} {fs : List (OF P)} {ms : List (OM P)} {tab : List (Ent P)} {fu d n c : Nat} {e : Ent P} {args : List Val} {m : Md} (hn : 1 + args.length ≤ e.fn.ntmps) (hok : okMd P c m)
  (h : ∀ (L : List Int) (ev : Ev), chkL L e.rs (strm L (ev.P 0)) n (xcK isA (tower (mkO fs ms) tab fu d).1 (tower (mkO fs ms) tab fu d).2 fu e.ac (initSt (some (strm L (ev.P 0))) args) .leaf) m ev = some (chkR L m ev)) :
  Gen P e.f args (n * c) (exMd m) := by
 intro L p hL hl h0 hp
 obtain ⟨hcf, hcm⟩ := tower_ok (mkO fs ms) tab fu d
 refine run_ask hcf hcm (fu := fu) (isA := isA) (by simpa using hn) (wpR_mono ?_ _ (chk_ok (rs := e.rs) (xt := strm L p) hL hl n _ m p p hok h0 (by omega) hp fun ev hev => ?_))
 ·rintro x s ⟨cs, r, h1, ⟨p', h2, h3, h4⟩, h5⟩
  exact ⟨cs, r, h1, ⟨p', h2, h3, h4⟩, h5⟩
 ·have := h L ev
  rw [hev] at this
  exact this
end Go.Proofs.YtdhkejcldipbmaaGreatDoor

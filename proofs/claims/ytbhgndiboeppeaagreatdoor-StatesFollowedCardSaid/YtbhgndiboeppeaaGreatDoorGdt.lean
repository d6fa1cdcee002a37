/- Some: one of some strings, drawn. Right curves that streams draw. Generators draw the same from the same stream: their contracts with one result each. Some: one result from one stream. -/
import Derived.Test.YtbhgndiboeppeaaGreatDoorBas
set_option linter.all false
set_option maxHeartbeats 4000000
set_option maxRecDepth 100000
namespace Go.Proofs.YtbhgndiboeppeaaGreatDoor
open Go Go.Ai
def a9y : List Ann := (aM [0] [] [[0,1],[4]])
def b0Z (b : ByteArray) : List Cel := [.g (.string b)]
theorem a2U (b : ByteArray) : b0Z b = [.g (.string b)] := rfl
abbrev d4S (fr : Bool) (l : List ByteArray) : Val := .one (.sl fr 1 (l.map b0Z))
theorem S9 (l : List ByteArray) (i : Int) (h0 : 0 ≤ i) (h : i < l.length) : (l.map b0Z).getD i.toNat [] = [.g (.string (l.getD i.toNat default))] := by
 rw [List.getD_eq_getElem?_getD, List.getElem?_map, List.getElem?_eq_getElem (show i.toNat < l.length by omega), List.getD_eq_getElem?_getD, List.getElem?_eq_getElem (show i.toNat < l.length by omega)]; rfl
theorem R2 (l : List ByteArray) (i : Nat) (h : i < l.length) : l.getD i default ∈ l := by
 rw [List.getD_eq_getElem?_getD, List.getElem?_eq_getElem h]; exact List.getElem_mem _
section
variable {P : Program} {s : AS} {k : List KI} {kp : Option Keep} {l : List GI} {Y : Type}
theorem a7D {a : AC} {Q : AX → AS → Prop} : ∀ (n : Nat) (s : AS), rnd P a k Q n s → rnd P a k Q (n + 1) s
 | 0, s, h => h.elim
 | n + 1, s, h => by
  refine F8 a _ _ (fun e s h => ?_) s h
  cases e with
  | nrm => exact a7D n s h
  | ret => exact h
  | ex id => exact h
theorem c0g {a : AC} {Q : AX → AS → Prop} {n m : Nat} {s : AS} (hnm : n ≤ m) (h : rnd P a k Q n s) : rnd P a k Q m s := by
 induction hnm with
 | refl => exact h
 | step _ ih => exact a7D _ _ ih
theorem b9C {X : Type} (st : X → AS) (I : X → Prop) (μ : X → Nat) {a : AC} {Q : Y → AX → AS → Prop} {B : Y → Prop} (x0 : X) (h0 : I x0) (hs : s = st x0)
  (round : ∀ (G : X → Y → Prop) (x : X), I x → (∀ x', I x' → μ x' < μ x → ∃ y, B y ∧ G x' y) → ∃ y, B y ∧ ex P a (.lp (fun s' => ∃ x', s' = st x' ∧ μ x' < μ x ∧ G x' y) :: k) (Q y) (st x)) :
  ∃ y, B y ∧ ex P (.loop a) k (Q y) s := by
 have key : ∀ n x, μ x = n → I x → ∃ y, B y ∧ rnd P a k (Q y) (μ x + 1) (st x) := by
  intro n
  induction n using Nat.strongRecOn with
  | _ n ih =>
   intro x hx hI
   obtain ⟨y, hB, h⟩ := round (fun x' y => rnd P a k (Q y) (μ x' + 1) (st x')) x hI (fun x' h1 h2 => ih (μ x') (by omega) x' rfl h1)
   refine ⟨y, hB, F8 a _ _ (fun e s h => ?_) _ h⟩
   cases e with
   | nrm =>
    obtain ⟨x', rfl, h1, h2⟩ := h
    exact c0g (by omega) h2
   | ret => exact h
   | ex id => exact h
 subst hs
 obtain ⟨y, hB, h⟩ := key _ x0 rfl h0
 exact ⟨y, hB, X7 _ h⟩
theorem exX {k : Y → List KI} {B : Y → Prop} {Q : Y → AX → AS → Prop} {f : FuncId} {key : Nat} {cs0 cs : List Cel} {vargs : List Val} {d : Option Nat} {r : Val} (hf : FC P f (some cs0) vargs (fun cs' x => cs' = cs ∧ x = r)) (hr : N2 r = true) (hc : cs.all C8 = true)
  (h : ∃ y, B y ∧ rg P l kp (k y) (Q y) ({ s with bx := upd s.bx key (some cs) }.put d r)) : ∃ y, B y ∧ b4l P f key cs0 vargs d l kp (k y) (Q y) s := by
 obtain ⟨y, hB, h⟩ := h
 exact ⟨y, hB, _, hf, ⟨cs, r, rfl, rfl⟩, fun _ _ hx => by obtain ⟨rfl, rfl⟩ := hx; exact ⟨hr, hc, h⟩⟩
theorem exC {k : Y → List KI} {B : Y → Prop} {Q : Y → AX → AS → Prop} {f : FuncId} {vargs : List Val} {pl : Bool} {d : Option Nat} {r : Val} (hf : FC P f none vargs (fun _ x => x = r)) (hr : Q5 r = true ∨ (N2 r = true ∧ pl = true))
  (h : ∃ y, B y ∧ rg P l kp (k y) (Q y) (s.put d r)) : ∃ y, B y ∧ c8Z P f vargs pl d l kp (k y) (Q y) s := by
 obtain ⟨y, hB, h⟩ := h
 exact ⟨y, hB, _, hf, ⟨[], r, rfl⟩, fun _ x hx => by subst hx; exact ⟨hr, h⟩⟩
end
def b0I (P : Program) (f : FuncId) (args : List Val) (n : Nat) (R : Val → Prop) : Prop :=
 ∀ (L : List Int) (p : Int), (∀ x ∈ L, I64 x) → L.length ≤ 9223372036854775807 → 0 ≤ p → p + n ≤ 4611686018427387904 →
  ∃ y : Int × Val, (p ≤ y.1 ∧ y.1 ≤ p + n ∧ R y.2) ∧ FC P f (some (m6 L p)) args fun cs r => cs = m6 L y.1 ∧ r = y.2
theorem L7 {P : Program} {f : FuncId} {C : AC} {res : List RV} {n : Nat} {args : List Val} {R : Val → Prop}
  (hf : ∀ (L : List Int) (p : Int) (R' : List Cel → Val → Prop), ex P C [] (M5 (some (m6 L p)) res R') (G5 (some (m6 L p)) args) → FC P f (some (m6 L p)) args R')
  (h : ∀ (L : List Int) (p : Int), (∀ x ∈ L, I64 x) → L.length ≤ 9223372036854775807 → 0 ≤ p → p + n ≤ 4611686018427387904 →
   ∃ y : Int × Val, (p ≤ y.1 ∧ y.1 ≤ p + n ∧ R y.2) ∧ ex P C [] (M5 (some (m6 L p)) res (fun cs r => cs = m6 L y.1 ∧ r = y.2)) (G5 (some (m6 L p)) args)) : b0I P f args n R := by
 intro L p h1 h2 h3 h4
 obtain ⟨y, h5, h6⟩ := h L p h1 h2 h3 h4
 exact ⟨y, h5, hf L p _ h6⟩
theorem C1 (n : Int) (h1 : 1 ≤ n) (hn : n ≤ 9223372036854775807) : b0I Tryz.prog 33 [iv n] 1 (fun r => ∃ x, 0 ≤ x ∧ x < n ∧ r = iv x) := by
 refine L7 (fun L p R' h => fcE Tryz.func33 a5e h (xt := some (m6 L p)) (args := [iv n]) (R := R')) ?_
 intro L p hL hl h0 hp
 have e0 : ∀ x, 0 ≤ x % n ∧ x % n < n := fun x => ⟨Int.emod_nonneg x (by omega), Int.emod_lt_of_pos x (by omega)⟩
 unfold m6
 by_cases c : L.length = 0
 ·refine qv ?_
  refine exC (T8 _ n h1 hn (a0d _)) (.inl rfl) ?_
  refine qv ?_
  exact ⟨(p + 1, _), ⟨by simp; omega, by simp, _, (e0 _).1, (e0 _).2, rfl⟩, rfl, rfl⟩
 ·have h3 : 0 < (L.length : Int) := by omega
  have h4 : (p + 1 - 1).tmod (L.length : Int) = (p + 1 - 1) % (L.length : Int) := Int.tmod_eq_emod_of_nonneg (by omega)
  have h5 := Int.emod_nonneg (p + 1 - 1) (show (L.length : Int) ≠ 0 by omega)
  have h6 := Int.emod_lt_of_pos (p + 1 - 1) h3
  have hb := T8 (L.getD ((p + 1 - 1) % (L.length : Int)).toNat default) 1073741824 (by omega) (by omega) (hL _ (j5 _ _ (by omega)))
  rw [← h4] at hb h5 h6
  refine qv ?_
  refine exC hb (.inl rfl) ?_
  refine qv ?_
  refine exC (T8 _ n h1 hn (a0d _)) (.inl rfl) ?_
  refine qv ?_
  exact ⟨(p + 1, _), ⟨by simp; omega, by simp, _, (e0 _).1, (e0 _).2, rfl⟩, rfl, rfl⟩
theorem W7 (lo hi : Int) (h1 : lo ≤ hi) (h2 : -4611686018427387904 ≤ lo) (h3 : hi ≤ 4611686018427387902) : b0I Tryz.prog 30 [iv lo, iv hi] 1 (fun r => ∃ x, lo ≤ x ∧ x ≤ hi ∧ r = iv x) := by
 refine L7 (fun L p R' h => fcE Tryz.func30 a8X h (xt := some (m6 L p)) (args := [iv lo, iv hi]) (R := R')) ?_
 intro L p hL hl h0 hp
 unfold m6
 refine qv ?_
 obtain ⟨⟨pa, ra⟩, ⟨haa, hba, xa, ka, na, rfl⟩, hfa⟩ := (C1 (hi - lo + 1) (by omega) (by omega)) L p hL hl (by omega) (by omega)
 simp only at haa hba hfa
 refine exX hfa rfl rfl ?_
 unfold m6
 refine qv ?_
 exact ⟨(pa, _), ⟨by omega, by simp; omega, _, by omega, by omega, rfl⟩, rfl, rfl⟩
theorem G8 (n : Int) (h1 : 1 ≤ n) (hn : n ≤ 9223372036854775807) : b0I Tryz.prog 32 [iv n] 1 (fun r => ∃ b, r = bv b) := by
 refine L7 (fun L p R' h => fcE Tryz.func32 a4n h (xt := some (m6 L p)) (args := [iv n]) (R := R')) ?_
 intro L p hL hl h0 hp
 unfold m6
 refine qv ?_
 obtain ⟨⟨pa, ra⟩, ⟨haa, hba, xa, ka, na, rfl⟩, hfa⟩ := (C1 n h1 hn) L p hL hl (by omega) (by omega)
 simp only at haa hba hfa
 refine exX hfa rfl rfl ?_
 unfold m6
 refine qv ?_
 exact ⟨(pa, _), ⟨by omega, by simp; omega, _, rfl⟩, rfl, rfl⟩
theorem o8 (fr : Bool) (l : List Int) (h1 : 0 < l.length) (h2 : l.length ≤ 9223372036854775807) : b0I Tryz.prog 31 [a1p fr l] 1 (fun r => ∃ x ∈ l, r = iv x) := by
 refine L7 (fun L p R' h => fcE Tryz.func31 a4J h (xt := some (m6 L p)) (args := [a1p fr l]) (R := R')) ?_
 intro L p hL hl h0 hp
 unfold m6
 refine qv ?_
 obtain ⟨⟨pa, ra⟩, ⟨haa, hba, xa, ka, na, rfl⟩, hfa⟩ := (C1 l.length (by omega) (by omega)) L p hL hl (by omega) (by omega)
 simp only at haa hba hfa
 refine exX hfa rfl rfl ?_
 unfold m6
 refine qv ?_
 exact ⟨(pa, _), ⟨by omega, by simp; omega, _, j5 _ _ (by omega), rfl⟩, rfl, rfl⟩
theorem W0 (lo hi : Int) (h1 : lo ≤ hi) (h2 : -1152921504606846976 ≤ lo) (h3 : hi ≤ 1152921504606846976) : b0I Tryz.prog 34 [iv lo, iv hi] 2 (fun r => ∃ x, I64 x ∧ r = iv x) := by
 refine L7 (fun L p R' h => fcE Tryz.func34 b4G h (xt := some (m6 L p)) (args := [iv lo, iv hi]) (R := R')) ?_
 intro L p hL hl h0 hp
 unfold m6
 refine qv ?_
 obtain ⟨⟨pa, ra⟩, ⟨haa, hba, ba, rfl⟩, hfa⟩ := (G8 12 (by omega) (by omega)) L p hL hl (by omega) (by omega)
 simp only at haa hba hfa
 refine exX hfa rfl rfl ?_
 unfold m6
 refine qv ?_
 cases ba with
 | true =>
  refine qv ?_
  obtain ⟨⟨pb, rb⟩, ⟨hab, hbb, xb, kb, rfl⟩, hfb⟩ := (o8 false [lo - 1, hi + 1, lo, hi, -1099511627776, 1099511627776] (by simp) (by simp)) L pa hL hl (by omega) (by omega)
  simp only at hab hbb hfb
  refine exX hfb rfl rfl ?_
  unfold m6
  refine qv ?_
  simp only [List.mem_cons, List.not_mem_nil, or_false] at kb
  exact ⟨(pb, _), ⟨by simp only; omega, by simp only; omega, xb, by unfold I64; omega, rfl⟩, rfl, rfl⟩
 | false =>
  refine qv ?_
  obtain ⟨⟨pb, rb⟩, ⟨hab, hbb, xb, kb, nb, rfl⟩, hfb⟩ := (W7 lo hi h1 (by omega) (by omega)) L pa hL hl (by omega) (by omega)
  simp only at hab hbb hfb
  refine exX hfb rfl rfl ?_
  unfold m6
  refine qv ?_
  exact ⟨(pb, _), ⟨by simp only; omega, by simp only; omega, xb, by unfold I64; omega, rfl⟩, rfl, rfl⟩
theorem b3t (most : Int) (hm : 0 ≤ most) (hm2 : most ≤ 1000) : b0I Tryz.prog 35 [iv most] 4000 (fun r => ∃ l : List Smp, l.length ≤ most ∧ (∀ x ∈ l, x.in64) ∧ r = a0Z true l) := by
 refine L7 (fun L p R' h => fcE Tryz.func35 a9W h (xt := some (m6 L p)) (args := [iv most]) (R := R')) ?_
 intro L p hL hl h0 hp
 unfold m6
 refine qv ?_
 obtain ⟨⟨px, rx⟩, ⟨hax, hbx, x, hx, rfl⟩, hfx⟩ := (o8 false [0, 0, 5, 40] (by simp) (by simp)) L p hL hl (by omega) (by omega)
 simp only at hax hbx hfx
 simp only [List.mem_cons, List.not_mem_nil, or_false] at hx
 refine exX hfx rfl rfl ?_
 unfold m6
 refine qv ?_
 obtain ⟨⟨py, ry⟩, ⟨hay, hby, y, hy, rfl⟩, hfy⟩ := (o8 false [0, 5, 10, -3] (by simp) (by simp)) L px hL hl (by omega) (by omega)
 simp only at hay hby hfy
 simp only [List.mem_cons, List.not_mem_nil, or_false] at hy
 refine exX hfy rfl rfl ?_
 unfold m6
 refine qv ?_
 obtain ⟨⟨pn, rn⟩, ⟨han, hbn, n, hn, hn2, rfl⟩, hfn⟩ := (W7 0 most (by omega) (by omega) (by omega)) L py hL hl (by omega) (by omega)
 simp only at han hbn hfn
 refine exX hfn rfl rfl ?_
 unfold m6
 refine qv ?_
 refine b9C (a2S L n) (fun x => 0 ≤ x.i ∧ x.i ≤ n ∧ x.l.length = x.i ∧ p ≤ x.p ∧ x.p ≤ p + 3 + 3 * x.i ∧ -100 * x.i - 100 ≤ x.a ∧ x.a ≤ 100 * x.i + 100 ∧ -100 * x.i - 100 ≤ x.v ∧ x.v ≤ 100 * x.i + 100 ∧ ∀ z ∈ x.l, -200000 ≤ z.a ∧ z.a ≤ 200000 ∧ -200000 ≤ z.v ∧ z.v ≤ 200000 ∧ 0 ≤ z.q ∧ z.q ≤ 2) (fun x => (n - x.i).toNat) ⟨0, x, y, pn, []⟩ ⟨by simp, by simp; omega, by simp, by simp; omega, by simp; omega, by simp; omega, by simp; omega, by simp; omega, by simp; omega, by simp⟩ rfl ?_
 rintro G ⟨i, a, v, q, l⟩ ⟨g1, g2, g3, g4, g5, g6, g7, g8, g9, g10⟩ IH
 simp only at g1 g2 g3 g4 g5 g6 g7 g8 g9 g10
 unfold a2S m6
 by_cases hi : i < n
 ·refine qv ?_
  obtain ⟨⟨pa, ra⟩, ⟨haa, hba, za, ka, rfl⟩, hfa⟩ := (o8 false [0, 0, 0, 0, 0, 1, 2] (by simp) (by simp)) L q hL hl (by omega) (by omega)
  simp only at haa hba hfa
  simp only [List.mem_cons, List.not_mem_nil, or_false] at ka
  by_cases hq : za = 2
  ·refine exX hfa rfl rfl ?_
   unfold m6
   refine qv ?_
   obtain ⟨⟨pb, rb⟩, ⟨hab, hbb, zb, kb, rfl⟩, hfb⟩ := (o8 false [1, 1, 2, 5, 10, 30] (by simp) (by simp)) L pa hL hl (by omega) (by omega)
   simp only at hab hbb hfb
   simp only [List.mem_cons, List.not_mem_nil, or_false] at kb
   refine exX hfb rfl rfl ?_
   unfold m6
   refine qv ?_
   obtain ⟨⟨pc, rc⟩, ⟨hac, hbc, zc, kc, rfl⟩, hfc⟩ := (o8 false [0, 0, 1, 1, 2, -1, -1, -4, 6] (by simp) (by simp)) L pb hL hl (by omega) (by omega)
   simp only at hac hbc hfc
   simp only [List.mem_cons, List.not_mem_nil, or_false] at kc
   refine exX hfc rfl rfl ?_
   unfold m6
   refine qv ?_
   obtain ⟨yy, hB, hG⟩ := IH ⟨i + 1, a + zb, v + zc, pc, l ++ [⟨a, 0, za⟩]⟩ ⟨by simp; omega, by simp; omega, by simp; omega, by simp; omega, by simp; omega, by simp; omega, by simp; omega, by simp; omega, by simp; omega, fun z hz => by
    simp only [List.mem_append, List.mem_cons, List.not_mem_nil, or_false] at hz
    rcases hz with hz | rfl
    ·exact g10 z hz
    ·simp only; omega⟩ (by simp; omega)
   exact ⟨yy, hB, _, by simp [a2S, m6, a0k], by simp; omega, hG⟩
  ·refine exX hfa rfl rfl ?_
   unfold m6
   refine qv ?_
   obtain ⟨⟨pb, rb⟩, ⟨hab, hbb, zb, kb, rfl⟩, hfb⟩ := (o8 false [1, 1, 2, 5, 10, 30] (by simp) (by simp)) L pa hL hl (by omega) (by omega)
   simp only at hab hbb hfb
   simp only [List.mem_cons, List.not_mem_nil, or_false] at kb
   refine exX hfb rfl rfl ?_
   unfold m6
   refine qv ?_
   obtain ⟨⟨pc, rc⟩, ⟨hac, hbc, zc, kc, rfl⟩, hfc⟩ := (o8 false [0, 0, 1, 1, 2, -1, -1, -4, 6] (by simp) (by simp)) L pb hL hl (by omega) (by omega)
   simp only at hac hbc hfc
   simp only [List.mem_cons, List.not_mem_nil, or_false] at kc
   refine exX hfc rfl rfl ?_
   unfold m6
   refine qv ?_
   obtain ⟨yy, hB, hG⟩ := IH ⟨i + 1, a + zb, v + zc, pc, l ++ [⟨a, v, za⟩]⟩ ⟨by simp; omega, by simp; omega, by simp; omega, by simp; omega, by simp; omega, by simp; omega, by simp; omega, by simp; omega, by simp; omega, fun z hz => by
    simp only [List.mem_append, List.mem_cons, List.not_mem_nil, or_false] at hz
    rcases hz with hz | rfl
    ·exact g10 z hz
    ·simp only; omega⟩ (by simp; omega)
   exact ⟨yy, hB, _, by simp [a2S, m6, a0k], by simp; omega, hG⟩
 ·have g11 : ∀ z ∈ l, z.in64 := fun z hz => by have := g10 z hz; unfold Smp.in64 I64; omega
  clear IH
  by_cases hlen : 0 < l.length
  ·refine qv ?_
   obtain ⟨⟨pd, rd⟩, ⟨had, hbd, bd, rfl⟩, hfd⟩ := (G8 12 (by omega) (by omega)) L q hL hl (by omega) (by omega)
   simp only at had hbd hfd
   cases bd with
   | false =>
    refine exX hfd rfl rfl ?_
    unfold m6
    refine qv ?_
    exact ⟨(pd, _), ⟨by simp only; omega, by simp only; omega, l, by omega, g11, rfl⟩, rfl, rfl⟩
   | true =>
    refine exX hfd rfl rfl ?_
    unfold m6
    refine qv ?_
    obtain ⟨⟨pe, re⟩, ⟨hae, hbe, ze, ke, ne, rfl⟩, hfe⟩ := (C1 l.length (by omega) (by omega)) L pd hL hl (by omega) (by omega)
    simp only at hae hbe hfe
    have gy := g11 _ (j5 l ze.toNat (by omega))
    refine exX hfe rfl rfl ?_
    unfold m6
    refine qv ?_
    obtain ⟨⟨pf, rf⟩, ⟨haf, hbf, zf, kf, nf, rfl⟩, hff⟩ := (C1 3 (by omega) (by omega)) L pe hL hl (by omega) (by omega)
    simp only at haf hbf hff
    by_cases hf0 : zf = 0
    ·refine exX hff rfl rfl ?_
     unfold m6
     refine qv ?_
     obtain ⟨⟨pg, rg⟩, ⟨hag, hbg, zg, kg, rfl⟩, hfg⟩ := (o8 false [IntKind.i64.wrap ((l.getD ze.toNat default).a - 40), -1, 345686400000, IntKind.i64.wrap ((l.getD ze.toNat default).a + 3)] (by simp) (by simp)) L pf hL hl (by omega) (by omega)
     simp only at hag hbg hfg
     simp only [List.mem_cons, List.not_mem_nil, or_false] at kg
     have hg : I64 zg := by
      have w1 := a0d ((l.getD ze.toNat default).a - 40)
      have w2 := a0d ((l.getD ze.toNat default).a + 3)
      unfold I64 at *; omega
     refine exX hfg rfl rfl ?_
     unfold m6
     refine qv ?_
     refine ⟨(pg, _), ⟨by simp only; omega, by simp only; omega, l.set ze.toNat ⟨zg, (l.getD ze.toNat default).v, (l.getD ze.toNat default).q⟩, by simp; omega, fun x hx => ?_, by simp [a0Z, a0k, List.map_set, H8, a3H, p9]⟩, rfl, rfl⟩
     rcases List.mem_or_eq_of_mem_set hx with hx | rfl
     ·exact g11 x hx
     ·exact ⟨hg, gy.2.1, gy.2.2⟩
    ·by_cases hf1 : zf = 1
     ·refine exX hff rfl rfl ?_
      unfold m6
      refine qv ?_
      obtain ⟨⟨pg, rg⟩, ⟨hag, hbg, zg, hzg, rfl⟩, hfg⟩ := (W0 (-1000000) 1000000 (by omega) (by omega) (by omega)) L pf hL hl (by omega) (by omega)
      simp only at hag hbg hfg
      refine exX hfg rfl rfl ?_
      unfold m6
      refine qv ?_
      refine ⟨(pg, _), ⟨by simp only; omega, by simp only; omega, l.set ze.toNat ⟨(l.getD ze.toNat default).a, zg, (l.getD ze.toNat default).q⟩, by simp; omega, fun x hx => ?_, by simp [a0Z, a0k, List.map_set, H8, a3H, p9]⟩, rfl, rfl⟩
      rcases List.mem_or_eq_of_mem_set hx with hx | rfl
      ·exact g11 x hx
      ·exact ⟨gy.1, hzg, gy.2.2⟩
     ·refine exX hff rfl rfl ?_
      unfold m6
      refine qv ?_
      obtain ⟨⟨pg, rg⟩, ⟨hag, hbg, zg, hzg, rfl⟩, hfg⟩ := (W0 0 2 (by omega) (by omega) (by omega)) L pf hL hl (by omega) (by omega)
      simp only at hag hbg hfg
      refine exX hfg rfl rfl ?_
      unfold m6
      refine qv ?_
      refine ⟨(pg, _), ⟨by simp only; omega, by simp only; omega, l.set ze.toNat ⟨(l.getD ze.toNat default).a, (l.getD ze.toNat default).v, zg⟩, by simp; omega, fun x hx => ?_, by simp [a0Z, a0k, List.map_set, H8, a3H, p9]⟩, rfl, rfl⟩
      rcases List.mem_or_eq_of_mem_set hx with hx | rfl
      ·exact g11 x hx
      ·exact ⟨gy.1, gy.2.1, hzg⟩
  ·refine qv ?_
   exact ⟨(q, _), ⟨by simp only; omega, by simp only; omega, l, by omega, g11, rfl⟩, rfl, rfl⟩
theorem K9 (fr : Bool) (l : List ByteArray) (h1 : 0 < l.length) (h2 : l.length ≤ 9223372036854775807) : b0I Tryz.prog 7 [d4S fr l] 1 (fun r => ∃ x ∈ l, r = sv x) := by
 refine L7 (fun L p R' h => fcE Tryz.func7 a9y h (xt := some (m6 L p)) (args := [d4S fr l]) (R := R')) ?_
 intro L p hL hl h0 hp
 unfold m6
 refine qv ?_
 obtain ⟨⟨pa, ra⟩, ⟨haa, hba, xa, ka, na, rfl⟩, hfa⟩ := (C1 l.length (by omega) (by omega)) L p hL hl (by omega) (by omega)
 simp only at haa hba hfa
 refine exX hfa rfl rfl ?_
 have em := S9 l xa ka na
 unfold m6
 refine qv ?_
 exact ⟨(pa, _), ⟨by omega, by simp; omega, _, R2 _ _ (by omega), rfl⟩, rfl, rfl⟩
end Go.Proofs.YtbhgndiboeppeaaGreatDoor

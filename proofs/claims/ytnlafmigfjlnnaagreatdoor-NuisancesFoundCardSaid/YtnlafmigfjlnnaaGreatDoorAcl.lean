/- slices.SortStableFunc over acts. -/
import Derived.Test.YtnlafmigfjlnnaaGreatDoorRun
import Derived.Test.YtnlafmigfjlnnaaGreatDoorAft
set_option linter.all false
set_option maxHeartbeats 0
set_option maxRecDepth 100000
namespace Go.Proofs.YtnlafmigfjlnnaaGreatDoor
open Go Go.Ai
def a9P : List Ann := (aM [0] [] [[0,1],[4]])
def b1D (b : ByteArray) : List Cel := [.g (.string b)]
theorem a3O (b : ByteArray) : b1D b = [.g (.string b)] := rfl
abbrev d5y (fr : Bool) (l : List ByteArray) : Val := .one (.sl fr 1 (l.map b1D))
theorem a3F (l : List ByteArray) (i : Int) (h0 : 0 <= i) (h : i < l.length) : (l.map b1D).getD i.toNat [] = [.g (.string (l.getD i.toNat default))] := by
 rw [List.getD_eq_getElem?_getD, List.getElem?_map, List.getElem?_eq_getElem (show i.toNat < l.length by omega), List.getD_eq_getElem?_getD, List.getElem?_eq_getElem (show i.toNat < l.length by omega)]; rfl
theorem P4 (l : List ByteArray) (i : Nat) (h : i < l.length) : l.getD i default ∈ l := by
 rw [List.getD_eq_getElem?_getD, List.getElem?_eq_getElem h]; exact List.getElem_mem _
section
variable {P : Program} {s : AS} {k : List KI} {kp : Option Keep} {l : List GI} {Y : Type}
theorem a8I {a : AC} {Q : AX -> AS -> Prop} : ∀ (n : Nat) (s : AS), rnd P a k Q n s -> rnd P a k Q (n + 1) s
 | 0, s, h => h.elim
 | n + 1, s, h => by
  refine F2 a _ _ (fun e s h => ?_) s h
  cases e with
  | nrm => exact a8I n s h
  | ret => exact h
  | ex id => exact h
theorem c1g {a : AC} {Q : AX -> AS -> Prop} {n m : Nat} {s : AS} (hnm : n <= m) (h : rnd P a k Q n s) : rnd P a k Q m s := by
 induction hnm with
 | refl => exact h
 | step _ ih => exact a8I _ _ ih
theorem b6t {X : Type} (st : X -> AS) (I : X -> Prop) (μ : X -> Nat) {a : AC} {Q : Y -> AX -> AS -> Prop} {B : Y -> Prop} (x0 : X) (h0 : I x0) (hs : s = st x0)
  (round : ∀ (G : X -> Y -> Prop) (x : X), I x -> (∀ x', I x' -> μ x' < μ x -> ∃ y, B y ∧ G x' y) -> ∃ y, B y ∧ ex P a (.lp (fun s' => ∃ x', s' = st x' ∧ μ x' < μ x ∧ G x' y) :: k) (Q y) (st x)) :
  ∃ y, B y ∧ ex P (.loop a) k (Q y) s := by
 have key : ∀ n x, μ x = n -> I x -> ∃ y, B y ∧ rnd P a k (Q y) (μ x + 1) (st x) := by
  intro n
  induction n using Nat.strongRecOn with
  | _ n ih =>
   intro x hx hI
   obtain ⟨y, hB, h⟩ := round (fun x' y => rnd P a k (Q y) (μ x' + 1) (st x')) x hI (fun x' h1 h2 => ih (μ x') (by omega) x' rfl h1)
   refine ⟨y, hB, F2 a _ _ (fun e s h => ?_) _ h⟩
   cases e with
   | nrm =>
    obtain ⟨x', rfl, h1, h2⟩ := h
    exact c1g (by omega) h2
   | ret => exact h
   | ex id => exact h
 subst hs
 obtain ⟨y, hB, h⟩ := key _ x0 rfl h0
 exact ⟨y, hB, T6 _ h⟩
theorem exX {k : Y -> List KI} {B : Y -> Prop} {Q : Y -> AX -> AS -> Prop} {f : FuncId} {key : Nat} {cs0 cs : List Cel} {vargs : List Val} {d : Option Nat} {r : Val} (hf : FC P f (some cs0) vargs (fun cs' x => cs' = cs ∧ x = r)) (hr : M8 r = true) (hc : cs.all C7 = true)
  (h : ∃ y, B y ∧ rg P l kp (k y) (Q y) ({ s with bx := upd s.bx key (some cs) }.put d r)) : ∃ y, B y ∧ b1j P f key cs0 vargs d l kp (k y) (Q y) s := by
 obtain ⟨y, hB, h⟩ := h
 exact ⟨y, hB, _, hf, ⟨cs, r, rfl, rfl⟩, fun _ _ hx => by obtain ⟨rfl, rfl⟩ := hx; exact ⟨hr, hc, h⟩⟩
theorem exC {k : Y -> List KI} {B : Y -> Prop} {Q : Y -> AX -> AS -> Prop} {f : FuncId} {vargs : List Val} {pl : Bool} {d : Option Nat} {r : Val} (hf : FC P f none vargs (fun _ x => x = r)) (hr : P2 r = true ∨ (M8 r = true ∧ pl = true))
  (h : ∃ y, B y ∧ rg P l kp (k y) (Q y) (s.put d r)) : ∃ y, B y ∧ d1T P f vargs pl d l kp (k y) (Q y) s := by
 obtain ⟨y, hB, h⟩ := h
 exact ⟨y, hB, _, hf, ⟨[], r, rfl⟩, fun _ x hx => by subst hx; exact ⟨hr, h⟩⟩
end
def b1N (P : Program) (f : FuncId) (args : List Val) (n : Nat) (R : Val -> Prop) : Prop :=
 ∀ (L : List Int) (p : Int), (∀ x ∈ L, I64 x) -> L.length <= 9223372036854775807 -> 0 <= p -> p + n <= 4611686018427387904 ->
  ∃ y : Int × Val, (p <= y.1 ∧ y.1 <= p + n ∧ R y.2) ∧ FC P f (some (m4 L p)) args fun cs r => cs = m4 L y.1 ∧ r = y.2
theorem L4 {P : Program} {f : FuncId} {C : AC} {res : List RV} {n : Nat} {args : List Val} {R : Val -> Prop}
  (hf : ∀ (L : List Int) (p : Int) (R' : List Cel -> Val -> Prop), ex P C [] (U3 (some (m4 L p)) res R') (G5 (some (m4 L p)) args) -> FC P f (some (m4 L p)) args R')
  (h : ∀ (L : List Int) (p : Int), (∀ x ∈ L, I64 x) -> L.length <= 9223372036854775807 -> 0 <= p -> p + n <= 4611686018427387904 ->
   ∃ y : Int × Val, (p <= y.1 ∧ y.1 <= p + n ∧ R y.2) ∧ ex P C [] (U3 (some (m4 L p)) res (fun cs r => cs = m4 L y.1 ∧ r = y.2)) (G5 (some (m4 L p)) args)) : b1N P f args n R := by
 intro L p h1 h2 h3 h4
 obtain ⟨y, h5, h6⟩ := h L p h1 h2 h3 h4
 exact ⟨y, h5, hf L p _ h6⟩
theorem C0 (n : Int) (h1 : 1 <= n) (hn : n <= 9223372036854775807) : b1N Tryz.prog 33 [iv n] 1 (fun r => ∃ x, 0 <= x ∧ x < n ∧ r = iv x) := by
 refine L4 (fun L p R' h => fcE Tryz.func33 a4S h (xt := some (m4 L p)) (args := [iv n]) (R := R')) ?_
 intro L p hL hl h0 hp
 have e0 : ∀ x, 0 <= x % n ∧ x % n < n := fun x => ⟨Int.emod_nonneg x (by omega), Int.emod_lt_of_pos x (by omega)⟩
 unfold m4
 by_cases c : L.length = 0
 ·refine qv ?_
  refine exC (R9 _ n h1 hn (a0c _)) (.inl rfl) ?_
  refine qv ?_
  exact ⟨(p + 1, _), ⟨by simp; omega, by simp, _, (e0 _).1, (e0 _).2, rfl⟩, rfl, rfl⟩
 ·have h3 : 0 < (L.length : Int) := by omega
  have h4 : (p + 1 - 1).tmod (L.length : Int) = (p + 1 - 1) % (L.length : Int) := Int.tmod_eq_emod_of_nonneg (by omega)
  have h5 := Int.emod_nonneg (p + 1 - 1) (show (L.length : Int) ≠ 0 by omega)
  have h6 := Int.emod_lt_of_pos (p + 1 - 1) h3
  have hb := R9 (L.getD ((p + 1 - 1) % (L.length : Int)).toNat default) 1073741824 (by omega) (by omega) (hL _ (f8 _ _ (by omega)))
  rw [<- h4] at hb h5 h6
  refine qv ?_
  refine exC hb (.inl rfl) ?_
  refine qv ?_
  refine exC (R9 _ n h1 hn (a0c _)) (.inl rfl) ?_
  refine qv ?_
  exact ⟨(p + 1, _), ⟨by simp; omega, by simp, _, (e0 _).1, (e0 _).2, rfl⟩, rfl, rfl⟩
theorem Y8 (lo hi : Int) (h1 : lo <= hi) (h2 : -4611686018427387904 <= lo) (h3 : hi <= 4611686018427387902) : b1N Tryz.prog 30 [iv lo, iv hi] 1 (fun r => ∃ x, lo <= x ∧ x <= hi ∧ r = iv x) := by
 refine L4 (fun L p R' h => fcE Tryz.func30 b0B h (xt := some (m4 L p)) (args := [iv lo, iv hi]) (R := R')) ?_
 intro L p hL hl h0 hp
 unfold m4
 refine qv ?_
 obtain ⟨⟨pa, ra⟩, ⟨haa, hba, xa, ka, na, rfl⟩, hfa⟩ := (C0 (hi - lo + 1) (by omega) (by omega)) L p hL hl (by omega) (by omega)
 simp only at haa hba hfa
 refine exX hfa rfl rfl ?_
 unfold m4
 refine qv ?_
 exact ⟨(pa, _), ⟨by omega, by simp; omega, _, by omega, by omega, rfl⟩, rfl, rfl⟩
theorem H3 (n : Int) (h1 : 1 <= n) (hn : n <= 9223372036854775807) : b1N Tryz.prog 32 [iv n] 1 (fun r => ∃ b, r = bv b) := by
 refine L4 (fun L p R' h => fcE Tryz.func32 a5F h (xt := some (m4 L p)) (args := [iv n]) (R := R')) ?_
 intro L p hL hl h0 hp
 unfold m4
 refine qv ?_
 obtain ⟨⟨pa, ra⟩, ⟨haa, hba, xa, ka, na, rfl⟩, hfa⟩ := (C0 n h1 hn) L p hL hl (by omega) (by omega)
 simp only at haa hba hfa
 refine exX hfa rfl rfl ?_
 unfold m4
 refine qv ?_
 exact ⟨(pa, _), ⟨by omega, by simp; omega, _, rfl⟩, rfl, rfl⟩
theorem n9 (fr : Bool) (l : List Int) (h1 : 0 < l.length) (h2 : l.length <= 9223372036854775807) : b1N Tryz.prog 9 [W0 fr l] 1 (fun r => ∃ x ∈ l, r = iv x) := by
 refine L4 (fun L p R' h => fcE Tryz.func9 a5K h (xt := some (m4 L p)) (args := [W0 fr l]) (R := R')) ?_
 intro L p hL hl h0 hp
 unfold m4
 refine qv ?_
 obtain ⟨⟨pa, ra⟩, ⟨haa, hba, xa, ka, na, rfl⟩, hfa⟩ := (C0 l.length (by omega) (by omega)) L p hL hl (by omega) (by omega)
 simp only at haa hba hfa
 refine exX hfa rfl rfl ?_
 unfold m4
 refine qv ?_
 exact ⟨(pa, _), ⟨by omega, by simp; omega, _, f8 _ _ (by omega), rfl⟩, rfl, rfl⟩
theorem U6 (lo hi : Int) (h1 : lo <= hi) (h2 : -1152921504606846976 <= lo) (h3 : hi <= 1152921504606846976) : b1N Tryz.prog 34 [iv lo, iv hi] 2 (fun r => ∃ x, I64 x ∧ r = iv x) := by
 refine L4 (fun L p R' h => fcE Tryz.func34 b8E h (xt := some (m4 L p)) (args := [iv lo, iv hi]) (R := R')) ?_
 intro L p hL hl h0 hp
 unfold m4
 refine qv ?_
 obtain ⟨⟨pa, ra⟩, ⟨haa, hba, ba, rfl⟩, hfa⟩ := (H3 12 (by omega) (by omega)) L p hL hl (by omega) (by omega)
 simp only at haa hba hfa
 refine exX hfa rfl rfl ?_
 unfold m4
 refine qv ?_
 cases ba with
 | true =>
  refine qv ?_
  obtain ⟨⟨pb, rb⟩, ⟨hab, hbb, xb, kb, rfl⟩, hfb⟩ := (n9 false [lo - 1, hi + 1, lo, hi, -1099511627776, 1099511627776] (by simp) (by simp)) L pa hL hl (by omega) (by omega)
  simp only at hab hbb hfb
  refine exX hfb rfl rfl ?_
  unfold m4
  refine qv ?_
  simp only [List.mem_cons, List.not_mem_nil, or_false] at kb
  exact ⟨(pb, _), ⟨by simp only; omega, by simp only; omega, xb, by unfold I64; omega, rfl⟩, rfl, rfl⟩
 | false =>
  refine qv ?_
  obtain ⟨⟨pb, rb⟩, ⟨hab, hbb, xb, kb, nb, rfl⟩, hfb⟩ := (Y8 lo hi h1 (by omega) (by omega)) L pa hL hl (by omega) (by omega)
  simp only at hab hbb hfb
  refine exX hfb rfl rfl ?_
  unfold m4
  refine qv ?_
  exact ⟨(pb, _), ⟨by simp only; omega, by simp only; omega, xb, by unfold I64; omega, rfl⟩, rfl, rfl⟩
theorem b3q (most : Int) (hm : 0 <= most) (hm2 : most <= 1000) : b1N Tryz.prog 35 [iv most] 4000 (fun r => ∃ l : List Smp, l.length <= most ∧ (∀ x ∈ l, x.in64) ∧ r = Z4 true l) := by
 refine L4 (fun L p R' h => fcE Tryz.func35 b0e h (xt := some (m4 L p)) (args := [iv most]) (R := R')) ?_
 intro L p hL hl h0 hp
 unfold m4
 refine qv ?_
 obtain ⟨⟨px, rx⟩, ⟨hax, hbx, x, hx, rfl⟩, hfx⟩ := (n9 false [0, 0, 5, 40] (by simp) (by simp)) L p hL hl (by omega) (by omega)
 simp only at hax hbx hfx
 simp only [List.mem_cons, List.not_mem_nil, or_false] at hx
 refine exX hfx rfl rfl ?_
 unfold m4
 refine qv ?_
 obtain ⟨⟨py, ry⟩, ⟨hay, hby, y, hy, rfl⟩, hfy⟩ := (n9 false [0, 5, 10, -3] (by simp) (by simp)) L px hL hl (by omega) (by omega)
 simp only at hay hby hfy
 simp only [List.mem_cons, List.not_mem_nil, or_false] at hy
 refine exX hfy rfl rfl ?_
 unfold m4
 refine qv ?_
 obtain ⟨⟨pn, rn⟩, ⟨han, hbn, n, hn, hn2, rfl⟩, hfn⟩ := (Y8 0 most (by omega) (by omega) (by omega)) L py hL hl (by omega) (by omega)
 simp only at han hbn hfn
 refine exX hfn rfl rfl ?_
 unfold m4
 refine qv ?_
 refine b6t (a3c L n) (fun x => 0 <= x.i ∧ x.i <= n ∧ x.l.length = x.i ∧ p <= x.p ∧ x.p <= p + 3 + 3 * x.i ∧ -100 * x.i - 100 <= x.a ∧ x.a <= 100 * x.i + 100 ∧ -100 * x.i - 100 <= x.v ∧ x.v <= 100 * x.i + 100 ∧ ∀ z ∈ x.l, -200000 <= z.a ∧ z.a <= 200000 ∧ -200000 <= z.v ∧ z.v <= 200000 ∧ 0 <= z.q ∧ z.q <= 2) (fun x => (n - x.i).toNat) ⟨0, x, y, pn, []⟩ ⟨by simp, by simp; omega, by simp, by simp; omega, by simp; omega, by simp; omega, by simp; omega, by simp; omega, by simp; omega, by simp⟩ rfl ?_
 rintro G ⟨i, a, v, q, l⟩ ⟨g1, g2, g3, g4, g5, g6, g7, g8, g9, g10⟩ IH
 simp only at g1 g2 g3 g4 g5 g6 g7 g8 g9 g10
 unfold a3c m4
 by_cases hi : i < n
 ·refine qv ?_
  obtain ⟨⟨pa, ra⟩, ⟨haa, hba, za, ka, rfl⟩, hfa⟩ := (n9 false [0, 0, 0, 0, 0, 1, 2] (by simp) (by simp)) L q hL hl (by omega) (by omega)
  simp only at haa hba hfa
  simp only [List.mem_cons, List.not_mem_nil, or_false] at ka
  by_cases hq : za = 2
  ·refine exX hfa rfl rfl ?_
   unfold m4
   refine qv ?_
   obtain ⟨⟨pb, rb⟩, ⟨hab, hbb, zb, kb, rfl⟩, hfb⟩ := (n9 false [1, 1, 2, 5, 10, 30] (by simp) (by simp)) L pa hL hl (by omega) (by omega)
   simp only at hab hbb hfb
   simp only [List.mem_cons, List.not_mem_nil, or_false] at kb
   refine exX hfb rfl rfl ?_
   unfold m4
   refine qv ?_
   obtain ⟨⟨pc, rc⟩, ⟨hac, hbc, zc, kc, rfl⟩, hfc⟩ := (n9 false [0, 0, 1, 1, 2, -1, -1, -4, 6] (by simp) (by simp)) L pb hL hl (by omega) (by omega)
   simp only at hac hbc hfc
   simp only [List.mem_cons, List.not_mem_nil, or_false] at kc
   refine exX hfc rfl rfl ?_
   unfold m4
   refine qv ?_
   obtain ⟨yy, hB, hG⟩ := IH ⟨i + 1, a + zb, v + zc, pc, l ++ [⟨a, 0, za⟩]⟩ ⟨by simp; omega, by simp; omega, by simp; omega, by simp; omega, by simp; omega, by simp; omega, by simp; omega, by simp; omega, by simp; omega, fun z hz => by
    simp only [List.mem_append, List.mem_cons, List.not_mem_nil, or_false] at hz
    rcases hz with hz | rfl
    ·exact g10 z hz
    ·simp only; omega⟩ (by simp; omega)
   exact ⟨yy, hB, _, by simp [a3c, m4, Z8], by simp; omega, hG⟩
  ·refine exX hfa rfl rfl ?_
   unfold m4
   refine qv ?_
   obtain ⟨⟨pb, rb⟩, ⟨hab, hbb, zb, kb, rfl⟩, hfb⟩ := (n9 false [1, 1, 2, 5, 10, 30] (by simp) (by simp)) L pa hL hl (by omega) (by omega)
   simp only at hab hbb hfb
   simp only [List.mem_cons, List.not_mem_nil, or_false] at kb
   refine exX hfb rfl rfl ?_
   unfold m4
   refine qv ?_
   obtain ⟨⟨pc, rc⟩, ⟨hac, hbc, zc, kc, rfl⟩, hfc⟩ := (n9 false [0, 0, 1, 1, 2, -1, -1, -4, 6] (by simp) (by simp)) L pb hL hl (by omega) (by omega)
   simp only at hac hbc hfc
   simp only [List.mem_cons, List.not_mem_nil, or_false] at kc
   refine exX hfc rfl rfl ?_
   unfold m4
   refine qv ?_
   obtain ⟨yy, hB, hG⟩ := IH ⟨i + 1, a + zb, v + zc, pc, l ++ [⟨a, v, za⟩]⟩ ⟨by simp; omega, by simp; omega, by simp; omega, by simp; omega, by simp; omega, by simp; omega, by simp; omega, by simp; omega, by simp; omega, fun z hz => by
    simp only [List.mem_append, List.mem_cons, List.not_mem_nil, or_false] at hz
    rcases hz with hz | rfl
    ·exact g10 z hz
    ·simp only; omega⟩ (by simp; omega)
   exact ⟨yy, hB, _, by simp [a3c, m4, Z8], by simp; omega, hG⟩
 ·have g11 : ∀ z ∈ l, z.in64 := fun z hz => by have := g10 z hz; unfold Smp.in64 I64; omega
  clear IH
  by_cases hlen : 0 < l.length
  ·refine qv ?_
   obtain ⟨⟨pd, rd⟩, ⟨had, hbd, bd, rfl⟩, hfd⟩ := (H3 12 (by omega) (by omega)) L q hL hl (by omega) (by omega)
   simp only at had hbd hfd
   cases bd with
   | false =>
    refine exX hfd rfl rfl ?_
    unfold m4
    refine qv ?_
    exact ⟨(pd, _), ⟨by simp only; omega, by simp only; omega, l, by omega, g11, rfl⟩, rfl, rfl⟩
   | true =>
    refine exX hfd rfl rfl ?_
    unfold m4
    refine qv ?_
    obtain ⟨⟨pe, re⟩, ⟨hae, hbe, ze, ke, ne, rfl⟩, hfe⟩ := (C0 l.length (by omega) (by omega)) L pd hL hl (by omega) (by omega)
    simp only at hae hbe hfe
    have gy := g11 _ (f8 l ze.toNat (by omega))
    refine exX hfe rfl rfl ?_
    unfold m4
    refine qv ?_
    obtain ⟨⟨pf, rf⟩, ⟨haf, hbf, zf, kf, nf, rfl⟩, hff⟩ := (C0 3 (by omega) (by omega)) L pe hL hl (by omega) (by omega)
    simp only at haf hbf hff
    by_cases hf0 : zf = 0
    ·refine exX hff rfl rfl ?_
     unfold m4
     refine qv ?_
     obtain ⟨⟨pg, rg⟩, ⟨hag, hbg, zg, kg, rfl⟩, hfg⟩ := (n9 false [IntKind.i64.wrap ((l.getD ze.toNat default).a - 40), -1, 345686400000, IntKind.i64.wrap ((l.getD ze.toNat default).a + 3)] (by simp) (by simp)) L pf hL hl (by omega) (by omega)
     simp only at hag hbg hfg
     simp only [List.mem_cons, List.not_mem_nil, or_false] at kg
     have hg : I64 zg := by
      have w1 := a0c ((l.getD ze.toNat default).a - 40)
      have w2 := a0c ((l.getD ze.toNat default).a + 3)
      unfold I64 at *; omega
     refine exX hfg rfl rfl ?_
     unfold m4
     refine qv ?_
     refine ⟨(pg, _), ⟨by simp only; omega, by simp only; omega, l.set ze.toNat ⟨zg, (l.getD ze.toNat default).v, (l.getD ze.toNat default).q⟩, by simp; omega, fun x hx => ?_, by simp [Z4, Z8, List.map_set, J2, a4h, o6]⟩, rfl, rfl⟩
     rcases List.mem_or_eq_of_mem_set hx with hx | rfl
     ·exact g11 x hx
     ·exact ⟨hg, gy.2.1, gy.2.2⟩
    ·by_cases hf1 : zf = 1
     ·refine exX hff rfl rfl ?_
      unfold m4
      refine qv ?_
      obtain ⟨⟨pg, rg⟩, ⟨hag, hbg, zg, hzg, rfl⟩, hfg⟩ := (U6 (-1000000) 1000000 (by omega) (by omega) (by omega)) L pf hL hl (by omega) (by omega)
      simp only at hag hbg hfg
      refine exX hfg rfl rfl ?_
      unfold m4
      refine qv ?_
      refine ⟨(pg, _), ⟨by simp only; omega, by simp only; omega, l.set ze.toNat ⟨(l.getD ze.toNat default).a, zg, (l.getD ze.toNat default).q⟩, by simp; omega, fun x hx => ?_, by simp [Z4, Z8, List.map_set, J2, a4h, o6]⟩, rfl, rfl⟩
      rcases List.mem_or_eq_of_mem_set hx with hx | rfl
      ·exact g11 x hx
      ·exact ⟨gy.1, hzg, gy.2.2⟩
     ·refine exX hff rfl rfl ?_
      unfold m4
      refine qv ?_
      obtain ⟨⟨pg, rg⟩, ⟨hag, hbg, zg, hzg, rfl⟩, hfg⟩ := (U6 0 2 (by omega) (by omega) (by omega)) L pf hL hl (by omega) (by omega)
      simp only at hag hbg hfg
      refine exX hfg rfl rfl ?_
      unfold m4
      refine qv ?_
      refine ⟨(pg, _), ⟨by simp only; omega, by simp only; omega, l.set ze.toNat ⟨(l.getD ze.toNat default).a, (l.getD ze.toNat default).v, zg⟩, by simp; omega, fun x hx => ?_, by simp [Z4, Z8, List.map_set, J2, a4h, o6]⟩, rfl, rfl⟩
      rcases List.mem_or_eq_of_mem_set hx with hx | rfl
      ·exact g11 x hx
      ·exact ⟨gy.1, gy.2.1, hzg⟩
  ·refine qv ?_
   exact ⟨(q, _), ⟨by simp only; omega, by simp only; omega, l, by omega, g11, rfl⟩, rfl, rfl⟩
theorem O1 (fr : Bool) (l : List ByteArray) (h1 : 0 < l.length) (h2 : l.length <= 9223372036854775807) : b1N Tryz.prog 31 [d5y fr l] 1 (fun r => ∃ x ∈ l, r = sv x) := by
 refine L4 (fun L p R' h => fcE Tryz.func31 a9P h (xt := some (m4 L p)) (args := [d5y fr l]) (R := R')) ?_
 intro L p hL hl h0 hp
 unfold m4
 refine qv ?_
 obtain ⟨⟨pa, ra⟩, ⟨haa, hba, xa, ka, na, rfl⟩, hfa⟩ := (C0 l.length (by omega) (by omega)) L p hL hl (by omega) (by omega)
 simp only at haa hba hfa
 refine exX hfa rfl rfl ?_
 unfold m4
 refine qv ?_
 exact ⟨(pa, _), ⟨by omega, by simp; omega, _, P4 _ _ (by omega), rfl⟩, rfl, rfl⟩
abbrev a0Z (l : List Alm) : Row := ⟨0, 71, 10, l.map D0⟩
theorem a1v (l : List Alm) : frE (l.map D0) = true := by
 unfold frE
 rw [List.all_eq_true]
 intro e he
 obtain ⟨x, _, rfl⟩ := List.mem_map.1 he
 rfl
attribute [go_sem] a1v
theorem a3R {α β : Type} (f : α -> β) (l : List α) (i : Nat) (x : β) (h : i < l.length) : ((l.map f).set i x)[i]? = some x := by
 rw [List.getElem?_set_self (by simpa using h)]
theorem a5v {α β : Type} (f : α -> β) (l : List α) (i : Nat) (x y : β) : ((l.map f).set i x).set i y = (l.map f).set i y := by simp
attribute [go_sem] a3R a5v
def b0t : ByteArray := ByteArray.mk #[97, 49]
def c5O : ByteArray := ByteArray.mk #[97, 50]
def c5s : ByteArray := ByteArray.mk #[97, 51]
def keysA : List ByteArray := [b0t, c5O, c5s]
def parsA : List ByteArray := [b0t, c5O]
def d1M : List ByteArray := [ByteArray.mk #[112, 49, 95, 116, 101, 109, 112], ByteArray.mk #[112, 49, 95, 116, 101, 109, 112], ByteArray.mk #[112, 50, 95, 116, 101, 109, 112], ByteArray.mk #[110, 111]]
theorem ek3 : ([[Cel.g (.string (ByteArray.mk #[97, 49]))], [.g (.string (ByteArray.mk #[97, 50]))], [.g (.string (ByteArray.mk #[97, 51]))]] : List (List Cel)) = keysA.map b1D := (rfl)
theorem ek2 : ([[Cel.g (.string (ByteArray.mk #[97, 49]))], [.g (.string (ByteArray.mk #[97, 50]))]] : List (List Cel)) = parsA.map b1D := (rfl)
theorem sms (l : List ByteArray) (h : l.all (fun b => decide (b.size <= 1000)) = true) : ∀ b ∈ l, b.size <= 1000 := fun b hb => of_decide_eq_true (List.all_eq_true.1 h b hb)
structure AlX where
 i : Int
 q : Int
 l : List Alm
abbrev ksA (n : Int) : List (List Cel) := (keysA.map b1D).take n.toNat
def c1s (L : List Int) (n : Int) (x : AlX) : AS := ⟨m7 [(0, .one (.bx 0 0)), (3, .one (.ow 3 0)), (11, .one (.sl true 1 (ksA n))), (12, iv (ksA n).length), (13, iv x.i)], f7 [(0, m4 L x.q)], f7 [(3, a0Z x.l)]⟩
theorem c3u {n : Int} (h0 : 0 <= n) (h : n <= 3) : ((ksA n).length : Int) = n := by
 unfold ksA; rw [List.length_take, List.length_map]; have : keysA.length = 3 := rfl; omega
theorem c7y {n i : Int} (h0 : 0 <= i) (hi : i < n) (h : n <= 3) : (ksA n).getD i.toNat [] = [.g (.string (keysA.getD i.toNat default))] := by
 unfold ksA
 have h3 : keysA.length = 3 := rfl
 rw [List.getD_eq_getElem?_getD, List.getElem?_take, if_pos (by omega), <- List.getD_eq_getElem?_getD]
 exact a3F keysA i h0 (by omega)
theorem b8f (i : Int) (h0 : 0 <= i) (h : i < 3) : (keysA.getD i.toNat default).size <= 1000 := sms keysA (by kernel_rfl) _ (P4 _ _ (by have : keysA.length = 3 := rfl; omega))
theorem a9r (i : Int) (h0 : 0 <= i) (h : i < 2) : (parsA.getD i.toNat default).size <= 1000 := sms parsA (by kernel_rfl) _ (P4 _ _ (by have : parsA.length = 2 := rfl; omega))
theorem a1n : (ByteArray.mk #[]).size <= 1000 := of_decide_eq_true (by kernel_rfl)
theorem a2w {l : List Alm} {x : Alm} (h : ∀ y ∈ l, y.sm) (hx : x.sm) : ∀ y ∈ l ++ [x], y.sm := fun y hy => by
 rcases List.mem_append.1 hy with hy | hy
 ·exact h y hy
 ·simp at hy; subst hy; exact hx
theorem a7Y {l : List Alm} {x : Alm} {k : Nat} (h : ∀ y ∈ l, y.sm) (hx : x.sm) : ∀ y ∈ l.set k x, y.sm := fun y hy => by
 rcases List.mem_or_eq_of_mem_set hy with hy | rfl
 ·exact h y hy
 ·exact hx
theorem a3E : b1N Tryz.prog 4 [] 100 (fun r => ∃ l : List Alm, l.length <= 3 ∧ (∀ x ∈ l, x.sm) ∧ r = r6 true l) := by
 refine L4 (fun L p R' h => fcE Tryz.func4 ([aN [0] [0] [],⟨(kP [0,3] [0] []),[(3,71,10)],[],[],[]⟩] ++ aM [0] [3] [[0,3,11,12,13],[0,3,11,12,13,14],[0,3,4,5,11,12,13]] ++ aM [0,6] [3] [[0,3,4,6,11,12,13],[0,3,4,6,11,12,13,39],[0,3,4,6,11,12,13],[0,3,4,6,11,12,13,53],[0,3,6,11,12,13]] ++ aM [0] [3] [[0,3,11,12,13],[0,3,11,12,13],[0,3,72],[0,3,7],[0,3,7,80],[0,3,7,80,91]] ++ [⟨(kP [3] [0] []),[],[(8,(some 0)),(11,(some 999999999)),(12,(some 999999999)),(13,(some 999999999))],[],[]⟩,aN [0,3,7,80,113] [0] [3],aN [3] [0] [],aN [0,3,7,125] [0] [3]] ++ aM [0] [] [[3],[3],[2]]) h (xt := some (m4 L p)) (args := []) (R := R')) ?_
 intro L p hL hl h0 hp
 unfold m4
 refine qv ?_
 obtain ⟨⟨pa, ra⟩, ⟨haa, hba, za, ka, na, rfl⟩, hfa⟩ := (Y8 0 3 (by omega) (by omega) (by omega)) L p hL hl (by omega) (by omega)
 simp only at haa hba hfa
 refine exX hfa rfl rfl ?_
 unfold m4
 refine qv ?_
 have hkl := c3u ka na
 rw [ek3]
 refine b6t (c1s L za) (fun x => 0 <= x.i ∧ x.i <= za ∧ x.l.length = x.i ∧ p <= x.q ∧ x.q <= p + 1 + 20 * x.i ∧ ∀ y ∈ x.l, y.sm) (fun x => (za - x.i).toNat) ⟨0, pa, []⟩ ⟨by simp, by simp; omega, by simp, by simp; omega, by simp; omega, by simp⟩ rfl ?_
 rintro G ⟨i, q, l⟩ ⟨g1, g2, g3, g4, g5, g6⟩ IH
 simp only at g1 g2 g3 g4 g5 g6
 unfold c1s m4
 by_cases hi : i < za
 ·have em := c7y g1 hi na
  have ksm := b8f i g1 (by omega)
  refine qv ?_
  rw [em]
  refine qv ?_
  obtain ⟨⟨pb, rb⟩, ⟨hab, hbb, zb, kb, rfl⟩, hfb⟩ := (O1 false d1M (of_decide_eq_true (by kernel_rfl)) (of_decide_eq_true (by kernel_rfl))) L q hL hl (by omega) (by omega)
  simp only at hab hbb hfb
  refine exX hfb rfl rfl ?_
  unfold m4
  refine qvs ?_
  have tsm := sms d1M (by kernel_rfl) _ kb
  obtain ⟨⟨pc, rc⟩, ⟨hac, hbc, zc, kc, rfl⟩, hfc⟩ := (n9 false [1, 1, 1, 2, 3] (by simp) (by simp)) L pb hL hl (by omega) (by omega)
  simp only at hac hbc hfc
  refine exX hfc rfl rfl ?_
  unfold m4
  refine qvs ?_
  obtain ⟨⟨pd, rd⟩, ⟨had, hbd, zd, kd, rfl⟩, hfd⟩ := (n9 false [0, 0, 5, 20] (by simp) (by simp)) L pc hL hl (by omega) (by omega)
  simp only at had hbd hfd
  refine exX hfd rfl rfl ?_
  unfold m4
  refine qvs ?_
  obtain ⟨⟨pe, re⟩, ⟨hae, hbe, ze, ke, rfl⟩, hfe⟩ := (n9 false [0, 0, 5] (by simp) (by simp)) L pd hL hl (by omega) (by omega)
  simp only at hae hbe hfe
  refine exX hfe rfl rfl ?_
  unfold m4
  refine qvs ?_
  obtain ⟨⟨pf, rf⟩, ⟨haf, hbf, zf, kf, rfl⟩, hff⟩ := (n9 false [1, 2, 2] (by simp) (by simp)) L pe hL hl (by omega) (by omega)
  simp only at haf hbf hff
  refine exX hff rfl rfl ?_
  unfold m4
  refine qvs ?_
  obtain ⟨⟨pg, rg⟩, ⟨hag, hbg, bg, rfl⟩, hfg⟩ := (H3 2 (by omega) (by omega)) L pf hL hl (by omega) (by omega)
  simp only at hag hbg hfg
  by_cases hc3 : zc = 3
  ·
   by_cases hi0 : 0 < i
   ·
    refine exX hfg rfl rfl ?_
    unfold m4
    refine qvs ?_
    obtain ⟨⟨pm, rm⟩, ⟨ham, hbm, bm, rfl⟩, hfm⟩ := (H3 3 (by omega) (by omega)) L pg hL hl (by omega) (by omega)
    simp only at ham hbm hfm
    cases bm with
    | true =>
     refine exX hfm rfl rfl ?_
     unfold m4
     refine qvs ?_
     obtain ⟨⟨pn, rn⟩, ⟨han, hbn, zn, kn, nn, rfl⟩, hfn⟩ := (C0 i (by omega) (by omega)) L pm hL hl (by omega) (by omega)
     simp only at han hbn hfn
     have psm := a9r zn kn (by omega)
     have hp2 : parsA.length = 2 := rfl
     refine exX hfn rfl rfl ?_
     unfold m4
     rw [ek2]
     refine qv ?_
     simp only [a3O]
     refine qv ?_
     obtain ⟨yy, hB, hG⟩ := IH ⟨i + 1, pn, l ++ [⟨keysA.getD i.toNat default, zb, zc, 0, 0, zd, ze, zf, bg, parsA.getD zn.toNat default⟩]⟩ ⟨by simp only; omega, by simp only; omega, by simp only [List.length_append, List.length_singleton]; omega, by simp only; omega, by simp only; omega, a2w g6 ⟨ksm, tsm, psm⟩⟩ (by simp only; omega)
     exact ⟨yy, hB, _, by simp only [c1s, m4, a0Z, List.map_append, List.map_cons, List.map_nil, j9], by simp only; omega, hG⟩
    | false =>
     refine exX hfm rfl rfl ?_
     unfold m4
     refine qvs ?_
     obtain ⟨yy, hB, hG⟩ := IH ⟨i + 1, pm, l ++ [⟨keysA.getD i.toNat default, zb, zc, 0, 0, zd, ze, zf, bg, ByteArray.mk #[]⟩]⟩ ⟨by simp only; omega, by simp only; omega, by simp only [List.length_append, List.length_singleton]; omega, by simp only; omega, by simp only; omega, a2w g6 ⟨ksm, tsm, a1n⟩⟩ (by simp only; omega)
     exact ⟨yy, hB, _, by simp only [c1s, m4, a0Z, List.map_append, List.map_cons, List.map_nil, j9], by simp only; omega, hG⟩
   ·
    refine exX hfg rfl rfl ?_
    unfold m4
    refine qvs ?_
    obtain ⟨yy, hB, hG⟩ := IH ⟨i + 1, pg, l ++ [⟨keysA.getD i.toNat default, zb, zc, 0, 0, zd, ze, zf, bg, ByteArray.mk #[]⟩]⟩ ⟨by simp only; omega, by simp only; omega, by simp only [List.length_append, List.length_singleton]; omega, by simp only; omega, by simp only; omega, a2w g6 ⟨ksm, tsm, a1n⟩⟩ (by simp only; omega)
    exact ⟨yy, hB, _, by simp only [c1s, m4, a0Z, List.map_append, List.map_cons, List.map_nil, j9], by simp only; omega, hG⟩
  ·
   refine exX hfg rfl rfl ?_
   unfold m4
   refine qvs ?_
   obtain ⟨⟨ph, rh⟩, ⟨hah, hbh, zh, kh, rfl⟩, hfh⟩ := (n9 false [3, 5, 8] (by simp) (by simp)) L pg hL hl (by omega) (by omega)
   simp only at hah hbh hfh
   refine exX hfh rfl rfl ?_
   unfold m4
   refine qvs ?_
   obtain ⟨⟨pj, rj⟩, ⟨haj, hbj, zj, kj, rfl⟩, hfj⟩ := (n9 false [0, 0, 1, 3] (by simp) (by simp)) L ph hL hl (by omega) (by omega)
   simp only at haj hbj hfj
   by_cases hi0 : 0 < i
   ·
    refine exX hfj rfl rfl ?_
    unfold m4
    refine qvs ?_
    obtain ⟨⟨pm, rm⟩, ⟨ham, hbm, bm, rfl⟩, hfm⟩ := (H3 3 (by omega) (by omega)) L pj hL hl (by omega) (by omega)
    simp only at ham hbm hfm
    cases bm with
    | true =>
     refine exX hfm rfl rfl ?_
     unfold m4
     refine qvs ?_
     obtain ⟨⟨pn, rn⟩, ⟨han, hbn, zn, kn, nn, rfl⟩, hfn⟩ := (C0 i (by omega) (by omega)) L pm hL hl (by omega) (by omega)
     simp only at han hbn hfn
     have psm := a9r zn kn (by omega)
     have hp2 : parsA.length = 2 := rfl
     refine exX hfn rfl rfl ?_
     unfold m4
     rw [ek2]
     refine qv ?_
     simp only [a3O]
     refine qv ?_
     obtain ⟨yy, hB, hG⟩ := IH ⟨i + 1, pn, l ++ [⟨keysA.getD i.toNat default, zb, zc, zh, zj, zd, ze, zf, bg, parsA.getD zn.toNat default⟩]⟩ ⟨by simp only; omega, by simp only; omega, by simp only [List.length_append, List.length_singleton]; omega, by simp only; omega, by simp only; omega, a2w g6 ⟨ksm, tsm, psm⟩⟩ (by simp only; omega)
     exact ⟨yy, hB, _, by simp only [c1s, m4, a0Z, List.map_append, List.map_cons, List.map_nil, j9], by simp only; omega, hG⟩
    | false =>
     refine exX hfm rfl rfl ?_
     unfold m4
     refine qvs ?_
     obtain ⟨yy, hB, hG⟩ := IH ⟨i + 1, pm, l ++ [⟨keysA.getD i.toNat default, zb, zc, zh, zj, zd, ze, zf, bg, ByteArray.mk #[]⟩]⟩ ⟨by simp only; omega, by simp only; omega, by simp only [List.length_append, List.length_singleton]; omega, by simp only; omega, by simp only; omega, a2w g6 ⟨ksm, tsm, a1n⟩⟩ (by simp only; omega)
     exact ⟨yy, hB, _, by simp only [c1s, m4, a0Z, List.map_append, List.map_cons, List.map_nil, j9], by simp only; omega, hG⟩
   ·
    refine exX hfj rfl rfl ?_
    unfold m4
    refine qvs ?_
    obtain ⟨yy, hB, hG⟩ := IH ⟨i + 1, pj, l ++ [⟨keysA.getD i.toNat default, zb, zc, zh, zj, zd, ze, zf, bg, ByteArray.mk #[]⟩]⟩ ⟨by simp only; omega, by simp only; omega, by simp only [List.length_append, List.length_singleton]; omega, by simp only; omega, by simp only; omega, a2w g6 ⟨ksm, tsm, a1n⟩⟩ (by simp only; omega)
    exact ⟨yy, hB, _, by simp only [c1s, m4, a0Z, List.map_append, List.map_cons, List.map_nil, j9], by simp only; omega, hG⟩
 ·clear IH
  have ei : i = za := by omega
  have g7 : q <= p + 61 := by omega
  by_cases hn : 0 < l.length
  ·refine qvs ?_
   obtain ⟨⟨pb, rb⟩, ⟨hab, hbb, bb, rfl⟩, hfb⟩ := (H3 12 (by omega) (by omega)) L q hL hl (by omega) (by omega)
   simp only at hab hbb hfb
   cases bb with
   | false =>
    refine exX hfb rfl rfl ?_
    unfold m4
    refine qvs ?_
    exact ⟨(pb, _), ⟨by simp only; omega, by simp only; omega, l, by omega, g6, rfl⟩, rfl, rfl⟩
   | true =>
    refine exX hfb rfl rfl ?_
    unfold m4
    refine qvs ?_
    obtain ⟨⟨pc, rc⟩, ⟨hac, hbc, zc, kc, nc, rfl⟩, hfc⟩ := (C0 l.length (by omega) (by omega)) L pb hL hl (by omega) (by omega)
    simp only at hac hbc hfc
    refine exX hfc rfl rfl ?_
    unfold m4
    refine qvs ?_
    have hsm := g6 _ (f8 l zc.toNat (by omega))
    obtain ⟨⟨pd, rd⟩, ⟨had, hbd, zd, kd, nd, rfl⟩, hfd⟩ := (C0 4 (by omega) (by omega)) L pc hL hl (by omega) (by omega)
    simp only at had hbd hfd
    by_cases d0 : zd = 0
    ·
     refine exX hfd rfl rfl ?_
     unfold m4
     refine qvs ?_
     obtain ⟨⟨pe, re⟩, ⟨hae, hbe, ze, ke, rfl⟩, hfe⟩ := (O1 false [(l.getD zc.toNat default).k, ByteArray.mk #[], b0t] (by simp) (by simp)) L pd hL hl (by omega) (by omega)
     simp only at hae hbe hfe
     refine exX hfe rfl rfl ?_
     unfold m4
     refine qvs ?_
     obtain ⟨⟨pf, rf⟩, ⟨haf, hbf, zf, kf, rfl⟩, hff⟩ := (O1 false [(l.getD zc.toNat default).t, ByteArray.mk #[65]] (by simp) (by simp)) L pe hL hl (by omega) (by omega)
     simp only at haf hbf hff
     refine exX hff rfl rfl ?_
     unfold m4
     refine qvs ?_
     have s1 : ze.size <= 1000 := by
      simp only [List.mem_cons, List.not_mem_nil, or_false] at ke
      rcases ke with rfl | rfl | rfl
      ·exact hsm.1
      ·exact a1n
      ·exact of_decide_eq_true (by kernel_rfl)
     have s2 : zf.size <= 1000 := by
      simp only [List.mem_cons, List.not_mem_nil, or_false] at kf
      rcases kf with rfl | rfl
      ·exact hsm.2.1
      ·exact of_decide_eq_true (by kernel_rfl)
     exact ⟨(pf, _), ⟨by simp only; omega, by simp only; omega, l.set zc.toNat { l.getD zc.toNat default with k := ze, t := zf }, by simp; omega, a7Y g6 ⟨s1, s2, hsm.2.2⟩, by simp [j9, List.map_set, J2, a1v, o6]⟩, rfl, rfl⟩
    by_cases d1 : zd = 1
    ·
     refine exX hfd rfl rfl ?_
     unfold m4
     refine qvs ?_
     obtain ⟨⟨pe, re⟩, ⟨hae, hbe, ze, ke, rfl⟩, hfe⟩ := (U6 1 3 (by omega) (by omega) (by omega)) L pd hL hl (by omega) (by omega)
     simp only at hae hbe hfe
     refine exX hfe rfl rfl ?_
     unfold m4
     refine qvs ?_
     obtain ⟨⟨pf, rf⟩, ⟨haf, hbf, zf, kf, rfl⟩, hff⟩ := (U6 (-1000000) 1000000 (by omega) (by omega) (by omega)) L pe hL hl (by omega) (by omega)
     simp only at haf hbf hff
     refine exX hff rfl rfl ?_
     unfold m4
     refine qvs ?_
     exact ⟨(pf, _), ⟨by simp only; omega, by simp only; omega, l.set zc.toNat { l.getD zc.toNat default with kd := ze, lim := zf }, by simp; omega, a7Y g6 hsm, by simp [j9, List.map_set, J2, a1v, o6]⟩, rfl, rfl⟩
    by_cases d2 : zd = 2
    ·
     refine exX hfd rfl rfl ?_
     unfold m4
     refine qvs ?_
     obtain ⟨⟨pe, re⟩, ⟨hae, hbe, ze, ke, rfl⟩, hfe⟩ := (U6 0 86400000 (by omega) (by omega) (by omega)) L pd hL hl (by omega) (by omega)
     simp only at hae hbe hfe
     refine exX hfe rfl rfl ?_
     unfold m4
     refine qvs ?_
     obtain ⟨⟨pf, rf⟩, ⟨haf, hbf, zf, kf, rfl⟩, hff⟩ := (U6 1 1000 (by omega) (by omega) (by omega)) L pe hL hl (by omega) (by omega)
     simp only at haf hbf hff
     refine exX hff rfl rfl ?_
     unfold m4
     refine qvs ?_
     exact ⟨(pf, _), ⟨by simp only; omega, by simp only; omega, l.set zc.toNat { l.getD zc.toNat default with on := ze, pr := zf }, by simp; omega, a7Y g6 hsm, by simp [j9, List.map_set, J2, a1v, o6]⟩, rfl, rfl⟩
    refine exX hfd rfl rfl ?_
    unfold m4
    refine qvs ?_
    obtain ⟨⟨pe, re⟩, ⟨hae, hbe, ze, ke, rfl⟩, hfe⟩ := (O1 false [ByteArray.mk #[122, 122], (l.getD zc.toNat default).k, b0t, c5s] (by simp) (by simp)) L pd hL hl (by omega) (by omega)
    simp only at hae hbe hfe
    refine exX hfe rfl rfl ?_
    unfold m4
    refine qvs ?_
    have s1 : ze.size <= 1000 := by
     simp only [List.mem_cons, List.not_mem_nil, or_false] at ke
     rcases ke with rfl | rfl | rfl | rfl
     ·exact of_decide_eq_true (by kernel_rfl)
     ·exact hsm.1
     ·exact of_decide_eq_true (by kernel_rfl)
     ·exact of_decide_eq_true (by kernel_rfl)
    exact ⟨(pe, _), ⟨by simp only; omega, by simp only; omega, l.set zc.toNat { l.getD zc.toNat default with p := ze }, by simp; omega, a7Y g6 ⟨hsm.1, hsm.2.1, s1⟩, by simp [j9, List.map_set, J2, a1v, o6]⟩, rfl, rfl⟩
  ·refine qvs ?_
   exact ⟨(q, _), ⟨by simp only; omega, by simp only; omega, l, by omega, g6, rfl⟩, rfl, rfl⟩
abbrev c1c (l : List Ser) : Row := ⟨0, 77, 2, l.map (b5u true)⟩
theorem b1d (l : List Ser) : frE (l.map (b5u true)) = true := by
 unfold frE
 rw [List.all_eq_true]
 intro e he
 obtain ⟨x, _, rfl⟩ := List.mem_map.1 he
 rfl
attribute [go_sem] b1d
def tgA : ByteArray := ByteArray.mk #[112, 49, 95, 116, 101, 109, 112]
def tgB : ByteArray := ByteArray.mk #[112, 50, 95, 116, 101, 109, 112]
def tgsA : List ByteArray := [tgA, tgB]
theorem tg2 : ([[Cel.g (.string (ByteArray.mk #[112, 49, 95, 116, 101, 109, 112]))], [.g (.string (ByteArray.mk #[112, 50, 95, 116, 101, 109, 112]))]] : List (List Cel)) = tgsA.map b1D := (rfl)
structure TgX where
 i : Int
 q : Int
 l : List Ser
def d2M (L : List Int) (most : Int) (x : TgX) : AS := ⟨m7 [(0, .one (.bx 0 0)), (1, iv most), (5, .one (.ow 5 0)), (8, .one (.sl true 1 (tgsA.map b1D))), (9, iv 2), (10, iv x.i)], f7 [(0, m4 L x.q)], f7 [(5, c1c x.l)]⟩
def Ser.sm (most : Int) (x : Ser) : Prop := x.t.size <= 1000 ∧ x.l.length <= most
theorem c3U {most : Int} {l : List Ser} {x : Ser} (h : ∀ y ∈ l, y.sm most) (hx : x.sm most) : ∀ y ∈ l ++ [x], y.sm most := fun y hy => by
 rcases List.mem_append.1 hy with hy | hy
 ·exact h y hy
 ·simp at hy; subst hy; exact hx
theorem d0z (i : Int) (h0 : 0 <= i) (h : i < 2) : (tgsA.getD i.toNat default).size <= 1000 := sms tgsA (by kernel_rfl) _ (P4 _ _ (by have : tgsA.length = 2 := rfl; omega))
theorem a6q (most : Int) (hm : 0 <= most) (hm2 : most <= 1000) : b1N Tryz.prog 5 [iv most] 9000 (fun r => ∃ l : List Ser, l.length <= 2 ∧ (∀ x ∈ l, x.sm most) ∧ r = B1 true l) := by
 refine L4 (fun L p R' h => fcE Tryz.func5 (aM [0] [] [[0,1]] ++ [⟨(kP [0,1,5] [0] []),[(5,77,2)],[],[],[]⟩] ++ aM [0] [5] [[0,1,5,8,9,10],[0,1,5,8,9,10,11],[0,1,5,7,8,9,10],[0,1,5,7,8,9,10,16],[0,1,5,8,9,10],[0,1,5,8,9,10],[0,5,32]] ++ aM [0] [] [[5],[4]]) h (xt := some (m4 L p)) (args := [iv most]) (R := R')) ?_
 intro L p hL hl h0 hp
 unfold m4
 refine qv ?_
 rw [tg2]
 refine b6t (d2M L most) (fun x => 0 <= x.i ∧ x.i <= 2 ∧ x.l.length <= x.i ∧ p <= x.q ∧ x.q <= p + 4001 * x.i ∧ ∀ y ∈ x.l, y.sm most) (fun x => (2 - x.i).toNat) ⟨0, p, []⟩ ⟨by simp, by simp, by simp, by simp, by simp, by simp⟩ rfl ?_
 rintro G ⟨i, q, l⟩ ⟨g1, g2, g3, g4, g5, g6⟩ IH
 simp only at g1 g2 g3 g4 g5 g6
 unfold d2M m4
 by_cases hi : i < 2
 ·have em := a3F tgsA i g1 (by have : tgsA.length = 2 := rfl; omega)
  have ksm := d0z i g1 hi
  have h2 : tgsA.length = 2 := rfl
  refine qv ?_
  simp only [a3O]
  refine qv ?_
  obtain ⟨⟨pa, ra⟩, ⟨haa, hba, ba, rfl⟩, hfa⟩ := (H3 6 (by omega) (by omega)) L q hL hl (by omega) (by omega)
  simp only at haa hba hfa
  cases ba with
  | true =>
   refine exX hfa rfl rfl ?_
   unfold m4
   refine qvs ?_
   obtain ⟨yy, hB, hG⟩ := IH ⟨i + 1, pa, l⟩ ⟨by simp only; omega, by simp only; omega, by simp only; omega, by simp only; omega, by simp only; omega, g6⟩ (by simp only; omega)
   exact ⟨yy, hB, _, by simp only [d2M, m4], by simp only; omega, hG⟩
  | false =>
   refine exX hfa rfl rfl ?_
   unfold m4
   refine qvs ?_
   obtain ⟨⟨pb, rb⟩, ⟨hab, hbb, c, hcl, hc64, rfl⟩, hfb⟩ := b3q most hm hm2 L pa hL hl (by omega) (by omega)
   simp only at hab hbb hfb
   refine exX hfb rfl rfl ?_
   unfold m4
   refine qvs ?_
   obtain ⟨yy, hB, hG⟩ := IH ⟨i + 1, pb, l ++ [⟨tgsA.getD i.toNat default, c⟩]⟩ ⟨by simp only; omega, by simp only; omega, by simp only [List.length_append, List.length_singleton]; omega, by simp only; omega, by simp only; omega, c3U g6 ⟨ksm, hcl⟩⟩ (by simp only; omega)
   exact ⟨yy, hB, _, by simp only [d2M, m4, c1c, List.map_append, List.map_cons, List.map_nil, a1w], by simp only; omega, hG⟩
 ·clear IH
  have g7 : q <= p + 8002 := by omega
  by_cases hn : 0 < l.length
  ·refine qvs ?_
   obtain ⟨⟨pb, rb⟩, ⟨hab, hbb, bb, rfl⟩, hfb⟩ := (H3 20 (by omega) (by omega)) L q hL hl (by omega) (by omega)
   simp only at hab hbb hfb
   cases bb with
   | false =>
    refine exX hfb rfl rfl ?_
    unfold m4
    refine qvs ?_
    exact ⟨(pb, _), ⟨by simp only; omega, by simp only; omega, l, by omega, g6, rfl⟩, rfl, rfl⟩
   | true =>
    refine exX hfb rfl rfl ?_
    unfold m4
    refine qvs ?_
    obtain ⟨⟨pe, re⟩, ⟨hae, hbe, ze, ke, rfl⟩, hfe⟩ := (O1 false [ByteArray.mk #[], ByteArray.mk #[122, 122], tgB] (by simp) (by simp)) L pb hL hl (by omega) (by omega)
    simp only at hae hbe hfe
    refine exX hfe rfl rfl ?_
    unfold m4
    refine qvs ?_
    have s1 : ze.size <= 1000 := by
     simp only [List.mem_cons, List.not_mem_nil, or_false] at ke
     rcases ke with rfl | rfl | rfl <;> exact of_decide_eq_true (by kernel_rfl)
    have hz := g6 _ (f8 l (Int.toNat 0) (by have : Int.toNat 0 = 0 := rfl; omega))
    refine ⟨(pe, _), ⟨by simp only; omega, by simp only; omega, l.set (Int.toNat 0) { l.getD (Int.toNat 0) default with t := ze }, by simp; omega, fun y hy => ?_, ?_⟩, rfl, rfl⟩
    ·rcases List.mem_or_eq_of_mem_set hy with hy | rfl
     ·exact g6 y hy
     ·exact ⟨s1, hz.2⟩
    ·simp [a1w, List.map_set, J2, b1d, o6]
  ·refine qvs ?_
   exact ⟨(q, _), ⟨by simp only; omega, by simp only; omega, l, by omega, g6, rfl⟩, rfl, rfl⟩
theorem z6 (l : List (List Cel)) (x : List Cel) {i j : Nat} (h : i ≠ j) : (l.set j x)[i]? = l[i]? := by rw [List.getElem?_set]; simp [h.symm]
theorem b9J (l : List Opr) : F8 (l.map O4) = l.map O4 := by
 unfold F8
 rw [List.map_map]
 refine List.map_congr_left fun x _ => ?_
 rfl
theorem c3S (l : List Opr) : frE (l.map O4) = true := by
 unfold frE
 rw [List.all_eq_true]
 intro e he
 obtain ⟨x, _, rfl⟩ := List.mem_map.1 he
 rfl
attribute [go_sem] b9J c3S
section
variable {P : Program} {s : AS} {Y : Type}
theorem c8u {X : Type} (st : X -> AS) (I : X -> Prop) (μ : X -> Nat) {a : AC} {k : Y -> List KI} {Q : Y -> AX -> AS -> Prop} {B : Y -> Prop} (x0 : X) (h0 : I x0) (hs : s = st x0)
  (round : ∀ (G : X -> Y -> Prop) (x : X), I x -> (∀ x', I x' -> μ x' < μ x -> ∃ y, B y ∧ G x' y) -> ∃ y, B y ∧ ex P a (.lp (fun s' => ∃ x', s' = st x' ∧ μ x' < μ x ∧ G x' y) :: k y) (Q y) (st x)) :
  ∃ y, B y ∧ ex P (.loop a) (k y) (Q y) s := by
 have key : ∀ n x, μ x = n -> I x -> ∃ y, B y ∧ rnd P a (k y) (Q y) (μ x + 1) (st x) := by
  intro n
  induction n using Nat.strongRecOn with
  | _ n ih =>
   intro x hx hI
   obtain ⟨y, hB, h⟩ := round (fun x' y => rnd P a (k y) (Q y) (μ x' + 1) (st x')) x hI (fun x' h1 h2 => ih (μ x') (by omega) x' rfl h1)
   refine ⟨y, hB, F2 a _ _ (fun e s h => ?_) _ h⟩
   cases e with
   | nrm =>
    obtain ⟨x', rfl, h1, h2⟩ := h
    exact c1g (by omega) h2
   | ret => exact h
   | ex id => exact h
 subst hs
 obtain ⟨y, hB, h⟩ := key _ x0 rfl h0
 exact ⟨y, hB, T6 _ h⟩
end
abbrev a8D (l : List Opr) : Row := ⟨0, 79, 6, l.map O4⟩
theorem a3A (l : List Opr) : frE (l.map O4) = true := by
 unfold frE
 rw [List.all_eq_true]
 intro e he
 obtain ⟨x, _, rfl⟩ := List.mem_map.1 he
 rfl
attribute [go_sem] a3A
def bysA : List ByteArray := [ByteArray.mk #[97, 109, 121], ByteArray.mk #[98, 111, 98]]
def d5H : List ByteArray := [b0t, b0t, c5O, c5s, ByteArray.mk #[122, 122]]
theorem by2 : ([[Cel.g (.string (ByteArray.mk #[97, 109, 121]))], [.g (.string (ByteArray.mk #[98, 111, 98]))]] : List (List Cel)) = bysA.map b1D := (rfl)
structure AcX where
 i : Int
 q : Int
 l : List Opr
def d3Q (L : List Int) (x : AcX) : AS := ⟨m7 [(0, .one (.bx 0 0)), (3, .one (.ow 3 0)), (10, .one (.sl true 1 (bysA.map b1D))), (11, iv 2), (12, iv x.i)], f7 [(0, m4 L x.q)], f7 [(3, a8D x.l)]⟩
structure AdX where
 j : Int
 q : Int
 no : Int
 at_ : Int
 l : List Opr
def d2A (L : List Int) (b : ByteArray) (i n : Int) (x : AdX) : AS := ⟨m7 [(0, .one (.bx 0 0)), (3, .one (.ow 3 0)), (5, sv b), (6, iv x.no), (7, iv x.at_), (10, .one (.sl true 1 (bysA.map b1D))), (11, iv 2), (12, iv i), (20, iv n), (21, iv x.j)], f7 [(0, m4 L x.q)], f7 [(3, a8D x.l)]⟩
theorem b5a {l : List Opr} {x : Opr} (h : ∀ y ∈ l, y.sm) (hx : x.sm) : ∀ y ∈ l ++ [x], y.sm := fun y hy => by
 rcases List.mem_append.1 hy with hy | hy
 ·exact h y hy
 ·simp at hy; subst hy; exact hx
theorem a6h {l : List Opr} {x : Opr} {k : Nat} (h : ∀ y ∈ l, y.sm) (hx : x.sm) : ∀ y ∈ l.set k x, y.sm := fun y hy => by
 rcases List.mem_or_eq_of_mem_set hy with hy | rfl
 ·exact h y hy
 ·exact hx
theorem d1h (i : Int) (h0 : 0 <= i) (h : i < 2) : (bysA.getD i.toNat default).size <= 1000 := sms bysA (by kernel_rfl) _ (P4 _ _ (by have : bysA.length = 2 := rfl; omega))
theorem a6b : b1N Tryz.prog 6 [] 100 (fun r => ∃ l : List Opr, l.length <= 8 ∧ (∀ x ∈ l, x.sm) ∧ r = F7 true l) := by
 refine L4 (fun L p R' h => fcE Tryz.func6 ([aN [0] [0] [],⟨(kP [0,3] [0] []),[(3,79,6)],[],[],[]⟩] ++ aM [0] [3] [[0,3,10,11,12],[0,3,10,11,12,13],[0,3,5,10,11,12],[0,3,5,6,7,10,11,12],[0,3,5,6,7,10,11,12,20,21],[0,3,5,6,7,10,11,12,20,21,22],[0,3,5,6,7,10,11,12,20,21]] ++ aM [0,8] [3] [[0,3,5,6,7,8,10,11,12,20,21],[0,3,5,6,7,8,10,11,12,20,21,40],[0,3,5,6,7,8,10,11,12,20,21]] ++ aM [0] [3] [[0,3,5,6,7,10,11,12,20,21],[0,3,5,6,7,10,11,12,20,21],[0,3,5,6,7,10,11,12,20,21],[0,3,10,11,12],[0,3,64],[0,3,9],[0,3,9,72],[0,3,9,72,76]] ++ [⟨(kP [3] [0] []),[],[(9,(some 0)),(12,(some 999999999)),(13,(some 999999999)),(14,(some 999999999)),(16,(some 0)),(19,(some 999999999)),(20,(some 999999999)),(21,(some 999999999))],[],[]⟩,aN [0,3,9,108] [0] [3],⟨(kP [3] [0] []),[],[(3,(some 0)),(6,(some 999999999)),(7,(some 999999999)),(8,(some 999999999))],[],[]⟩,aN [3] [0] [],aN [2] [0] []]) h (xt := some (m4 L p)) (args := []) (R := R')) ?_
 intro L p hL hl h0 hp
 unfold m4
 refine qv ?_
 rw [by2]
 refine b6t (d3Q L) (fun x => 0 <= x.i ∧ x.i <= 2 ∧ x.l.length <= 4 * x.i ∧ p <= x.q ∧ x.q <= p + 22 * x.i ∧ ∀ y ∈ x.l, y.sm) (fun x => (2 - x.i).toNat) ⟨0, p, []⟩ ⟨by simp, by simp, by simp, by simp, by simp, by simp⟩ rfl ?_
 rintro G ⟨i, q, l⟩ ⟨g1, g2, g3, g4, g5, g6⟩ IH
 simp only at g1 g2 g3 g4 g5 g6
 unfold d3Q m4
 by_cases hi : i < 2
 ·have em := a3F bysA i g1 (by have : bysA.length = 2 := rfl; omega)
  have ksm := d1h i g1 hi
  have h2 : bysA.length = 2 := rfl
  refine qv ?_
  simp only [a3O]
  refine qv ?_
  obtain ⟨⟨pa, ra⟩, ⟨haa, hba, za, ka, rfl⟩, hfa⟩ := (n9 false [0, 10] (by simp) (by simp)) L q hL hl (by omega) (by omega)
  simp only at haa hba hfa
  refine exX hfa rfl rfl ?_
  unfold m4
  refine qvs ?_
  obtain ⟨⟨pb, rb⟩, ⟨hab, hbb, zb, kb, nb, rfl⟩, hfb⟩ := (Y8 0 4 (by omega) (by omega) (by omega)) L pa hL hl (by omega) (by omega)
  simp only at hab hbb hfb
  refine exX hfb rfl rfl ?_
  unfold m4
  refine qvs ?_
  simp only [List.mem_cons, List.not_mem_nil, or_false] at ka
  generalize hby : bysA.getD i.toNat default = by_ at *
  refine c8u (d2A L by_ i zb) (fun x => 0 <= x.j ∧ x.j <= zb ∧ x.l.length <= 4 * i + x.j ∧ p <= x.q ∧ x.q <= p + 22 * i + 2 + 5 * x.j ∧ 0 <= x.no ∧ x.no <= 2 * x.j ∧ 0 <= x.at_ ∧ x.at_ <= 10 + 30 * x.j ∧ ∀ y ∈ x.l, y.sm) (fun x => (zb - x.j).toNat) ⟨0, pb, 0, za, l⟩ ⟨by simp, by simp only; omega, by simp only; omega, by simp only; omega, by simp only; omega, by simp, by simp, by simp only; omega, by simp only; omega, g6⟩ rfl ?_
  rintro G2 ⟨j, q2, no, at_, l2⟩ ⟨d1, d2, d3, d4, d5, d6, d7, d8, d9, d10⟩ IH2
  simp only at d1 d2 d3 d4 d5 d6 d7 d8 d9 d10
  unfold d2A m4
  by_cases hj : j < zb
  ·refine qv ?_
   obtain ⟨⟨pc, rc⟩, ⟨hac, hbc, zc, kc, rfl⟩, hfc⟩ := (n9 false [1, 1, 2] (by simp) (by simp)) L q2 hL hl (by omega) (by omega)
   simp only at hac hbc hfc
   refine exX hfc rfl rfl ?_
   unfold m4
   refine qvs ?_
   simp only [List.mem_cons, List.not_mem_nil, or_false] at kc
   obtain ⟨⟨pd, rd⟩, ⟨had, hbd, zd, kd, rfl⟩, hfd⟩ := (n9 false [1, 1, 1, 2, 3] (by simp) (by simp)) L pc hL hl (by omega) (by omega)
   simp only at had hbd hfd
   refine exX hfd rfl rfl ?_
   unfold m4
   refine qvs ?_
   obtain ⟨⟨pe, re⟩, ⟨hae, hbe, ze, ke, rfl⟩, hfe⟩ := (O1 false d5H (of_decide_eq_true (by kernel_rfl)) (of_decide_eq_true (by kernel_rfl))) L pd hL hl (by omega) (by omega)
   simp only at hae hbe hfe
   have asm := sms d5H (by kernel_rfl) _ ke
   by_cases hk2 : zd = 2
   ·
    refine exX hfe rfl rfl ?_
    unfold m4
    refine qvs ?_
    obtain ⟨⟨pf, rf⟩, ⟨haf, hbf, zf, kf, rfl⟩, hff⟩ := (n9 false [1, 10, 40] (by simp) (by simp)) L pe hL hl (by omega) (by omega)
    simp only at haf hbf hff
    refine exX hff rfl rfl ?_
    unfold m4
    refine qvs ?_
    simp only [List.mem_cons, List.not_mem_nil, or_false] at kf
    obtain ⟨⟨pg, rg⟩, ⟨hag, hbg, zg, kg, rfl⟩, hfg⟩ := (n9 false [0, 1, 10, 30] (by simp) (by simp)) L pf hL hl (by omega) (by omega)
    simp only at hag hbg hfg
    simp only [List.mem_cons, List.not_mem_nil, or_false] at kg
    refine exX hfg rfl rfl ?_
    unfold m4
    refine qvs ?_
    obtain ⟨yy, hB, hG⟩ := IH2 ⟨j + 1, pg, no + zc, at_ + zg, l2 ++ [⟨by_, no + zc, at_, zd, ze, at_ + zf⟩]⟩ ⟨by simp only; omega, by simp only; omega, by simp only [List.length_append, List.length_singleton]; omega, by simp only; omega, by simp only; omega, by simp only; omega, by simp only; omega, by simp only; omega, by simp only; omega, b5a d10 ⟨ksm, asm, by unfold I64; simp only; omega⟩⟩ (by simp only; omega)
    exact ⟨yy, hB, _, by simp only [d2A, m4, a8D, List.map_append, List.map_cons, List.map_nil, s9], by simp only; omega, hG⟩
   ·
    refine exX hfe rfl rfl ?_
    unfold m4
    refine qvs ?_
    obtain ⟨⟨pg, rg⟩, ⟨hag, hbg, zg, kg, rfl⟩, hfg⟩ := (n9 false [0, 1, 10, 30] (by simp) (by simp)) L pe hL hl (by omega) (by omega)
    simp only at hag hbg hfg
    simp only [List.mem_cons, List.not_mem_nil, or_false] at kg
    refine exX hfg rfl rfl ?_
    unfold m4
    refine qvs ?_
    obtain ⟨yy, hB, hG⟩ := IH2 ⟨j + 1, pg, no + zc, at_ + zg, l2 ++ [⟨by_, no + zc, at_, zd, ze, 0⟩]⟩ ⟨by simp only; omega, by simp only; omega, by simp only [List.length_append, List.length_singleton]; omega, by simp only; omega, by simp only; omega, by simp only; omega, by simp only; omega, by simp only; omega, by simp only; omega, b5a d10 ⟨ksm, asm, by unfold I64; simp only; omega⟩⟩ (by simp only; omega)
    exact ⟨yy, hB, _, by simp only [d2A, m4, a8D, List.map_append, List.map_cons, List.map_nil, s9], by simp only; omega, hG⟩
  ·clear IH2
   refine qv ?_
   obtain ⟨yy, hB, hG⟩ := IH ⟨i + 1, q2, l2⟩ ⟨by simp only; omega, by simp only; omega, by simp only; omega, by simp only; omega, by simp only; omega, d10⟩ (by simp only; omega)
   exact ⟨yy, hB, _, by simp only [d3Q, m4], by simp only; omega, hG⟩
 ·clear IH
  have g7 : q <= p + 44 := by omega
  by_cases hn : 0 < l.length
  ·refine qvs ?_
   obtain ⟨⟨pb, rb⟩, ⟨hab, hbb, bb, rfl⟩, hfb⟩ := (H3 12 (by omega) (by omega)) L q hL hl (by omega) (by omega)
   simp only at hab hbb hfb
   cases bb with
   | false =>
    refine exX hfb rfl rfl ?_
    unfold m4
    refine qvs ?_
    exact ⟨(pb, _), ⟨by simp only; omega, by simp only; omega, l, by omega, g6, rfl⟩, rfl, rfl⟩
   | true =>
    refine exX hfb rfl rfl ?_
    unfold m4
    refine qvs ?_
    obtain ⟨⟨pc, rc⟩, ⟨hac, hbc, zc, kc, nc, rfl⟩, hfc⟩ := (C0 l.length (by omega) (by omega)) L pb hL hl (by omega) (by omega)
    simp only at hac hbc hfc
    refine exX hfc rfl rfl ?_
    unfold m4
    refine qvs ?_
    have hsm := g6 _ (f8 l zc.toNat (by omega))
    obtain ⟨⟨pd, rd⟩, ⟨had, hbd, zd, kd, nd, rfl⟩, hfd⟩ := (C0 3 (by omega) (by omega)) L pc hL hl (by omega) (by omega)
    simp only at had hbd hfd
    by_cases d0 : zd = 0
    ·
     refine exX hfd rfl rfl ?_
     unfold m4
     refine qvs ?_
     obtain ⟨⟨pe, re⟩, ⟨hae, hbe, ze, ke, rfl⟩, hfe⟩ := (O1 false [(l.getD zc.toNat default).b, ByteArray.mk #[]] (by simp) (by simp)) L pd hL hl (by omega) (by omega)
     simp only at hae hbe hfe
     refine exX hfe rfl rfl ?_
     unfold m4
     refine qvs ?_
     obtain ⟨⟨pf, rf⟩, ⟨haf, hbf, zf, kf, rfl⟩, hff⟩ := (n9 false [(l.getD zc.toNat default).no, 0, 1] (by simp) (by simp)) L pe hL hl (by omega) (by omega)
     simp only at haf hbf hff
     refine exX hff rfl rfl ?_
     unfold m4
     refine qvs ?_
     obtain ⟨⟨pg, rg⟩, ⟨hag, hbg, zg, kg, rfl⟩, hfg⟩ := (n9 false [(l.getD zc.toNat default).at_, -1, 3] (by simp) (by simp)) L pf hL hl (by omega) (by omega)
     simp only at hag hbg hfg
     refine exX hfg rfl rfl ?_
     unfold m4
     refine qvs ?_
     have s1 : ze.size <= 1000 := by
      simp only [List.mem_cons, List.not_mem_nil, or_false] at ke
      rcases ke with rfl | rfl
      ·exact hsm.1
      ·exact a1n
     have s2 : I64 (zg + 1) := by
      simp only [List.mem_cons, List.not_mem_nil, or_false] at kg
      rcases kg with rfl | rfl | rfl
      ·exact hsm.2.2
      ·unfold I64; omega
      ·unfold I64; omega
     exact ⟨(pg, _), ⟨by simp only; omega, by simp only; omega, l.set zc.toNat { l.getD zc.toNat default with b := ze, no := zf, at_ := zg }, by simp; omega, a6h g6 ⟨s1, hsm.2.1, s2⟩, by simp [s9, List.map_set, J2, a3A, o6]⟩, rfl, rfl⟩
    by_cases d1 : zd = 1
    ·
     refine exX hfd rfl rfl ?_
     unfold m4
     refine qvs ?_
     obtain ⟨⟨pe, re⟩, ⟨hae, hbe, ze, ke, rfl⟩, hfe⟩ := (U6 1 3 (by omega) (by omega) (by omega)) L pd hL hl (by omega) (by omega)
     simp only at hae hbe hfe
     refine exX hfe rfl rfl ?_
     unfold m4
     refine qvs ?_
     obtain ⟨⟨pf, rf⟩, ⟨haf, hbf, zf, kf, rfl⟩, hff⟩ := (n9 false [(l.getD zc.toNat default).un, 0, 1] (by simp) (by simp)) L pe hL hl (by omega) (by omega)
     simp only at haf hbf hff
     refine exX hff rfl rfl ?_
     unfold m4
     refine qvs ?_
     exact ⟨(pf, _), ⟨by simp only; omega, by simp only; omega, l.set zc.toNat { l.getD zc.toNat default with kd := ze, un := zf }, by simp; omega, a6h g6 hsm, by simp [s9, List.map_set, J2, a3A, o6]⟩, rfl, rfl⟩
    refine exX hfd rfl rfl ?_
    unfold m4
    refine qvs ?_
    exact ⟨(pd, _), ⟨by simp only; omega, by simp only; omega, l.set zc.toNat { l.getD zc.toNat default with al := ByteArray.mk #[] }, by simp; omega, a6h g6 ⟨hsm.1, a1n, hsm.2.2⟩, by simp [s9, List.map_set, J2, a3A, o6]⟩, rfl, rfl⟩
  ·refine qvs ?_
   exact ⟨(q, _), ⟨by simp only; omega, by simp only; omega, l, by omega, g6, rfl⟩, rfl, rfl⟩
end Go.Proofs.YtnlafmigfjlnnaaGreatDoor

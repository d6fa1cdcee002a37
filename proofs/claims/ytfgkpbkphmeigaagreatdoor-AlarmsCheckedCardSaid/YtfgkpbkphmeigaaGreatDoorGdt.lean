/-
 Some: one of some strings, drawn.
 Right curves that streams draw.
 Generators draw the same from the same stream: their contracts with one result each.
 Some: one result from one stream.
-/
import Derived.Test.YtfgkpbkphmeigaaGreatDoorBas
namespace Go.Proofs.YtfgkpbkphmeigaaGreatDoor
open Go Go.Ai
set_option linter.unusedSimpArgs false
set_option linter.unusedVariables false
set_option maxHeartbeats 4000000
def C_some_ : AC := (.seq (.reg false [gI 4 (.mv (.v (.string (ByteArray.mk #[]))))] (kP [0,1] [0] []))
 (.seq (.reg false [gM 5 1,gM 6 0,gM 7 1,gI 8 (.len (.t 7)),gI 9 (.callx (.f 71) [(.t 6),(.t 8)]),gI 10 (.iadr 1 (.t 5) (.t 9)),gI 11 (.load false 1 (.t 10)),gM 4 11] (kP [4] [0] []))
 .ret))
theorem fc_some_ : FcT Tryz.prog 30 Tryz.f30 C_some_ [.t 4] := fc_mk [aN [0,1] [0] [],aN [4] [0] []] Tryz.func30 (by kernel_rfl)
def strC (b : ByteArray) : List Cel := [.g (.string b)]
theorem strC_eq (b : ByteArray) : strC b = [.g (.string b)] := rfl
abbrev strs (fr : Bool) (l : List ByteArray) : Val := .one (.sl fr 1 (l.map strC))
theorem getD_str (l : List ByteArray) (i : Int) (h0 : 0 ≤ i) (h : i < l.length) : (l.map strC).getD i.toNat [] = [.g (.string (l.getD i.toNat default))] := by
 rw [List.getD_eq_getElem?_getD, List.getElem?_map, List.getElem?_eq_getElem (show i.toNat < l.length by omega), List.getD_eq_getElem?_getD, List.getElem?_eq_getElem (show i.toNat < l.length by omega)]; rfl
theorem getD_memB (l : List ByteArray) (i : Nat) (h : i < l.length) : l.getD i default ∈ l := by
 rw [List.getD_eq_getElem?_getD, List.getElem?_eq_getElem h]; exact List.getElem_mem _
end Go.Proofs.YtfgkpbkphmeigaaGreatDoor
namespace Go.Proofs.YtfgkpbkphmeigaaGreatDoor
open Go Go.Ai
set_option linter.unusedSimpArgs false
set_option linter.unusedVariables false
set_option maxHeartbeats 4000000
end Go.Proofs.YtfgkpbkphmeigaaGreatDoor
namespace Go.Proofs.YtfgkpbkphmeigaaGreatDoor
open Go Go.Ai
set_option linter.unusedSimpArgs false
set_option linter.unusedVariables false
set_option maxHeartbeats 4000000
section
variable {P : Program} {s : AS} {k : List KI} {kp : Option Keep} {l : List GI} {Y : Type}
theorem rnd_mono {a : AC} {Q : AX → AS → Prop} : ∀ (n : Nat) (s : AS), rnd P a k Q n s → rnd P a k Q (n + 1) s
 | 0, s, h => h.elim
 | n + 1, s, h => by
  refine awp_mono a _ _ (fun e s h => ?_) s h
  cases e with
  | nrm => exact rnd_mono n s h
  | ret => exact h
  | ex id => exact h
theorem rnd_le {a : AC} {Q : AX → AS → Prop} {n m : Nat} {s : AS} (hnm : n ≤ m) (h : rnd P a k Q n s) : rnd P a k Q m s := by
 induction hnm with
 | refl => exact h
 | step _ ih => exact rnd_mono _ _ ih
/-- A loop that ends with one result. -/
theorem loopD {X : Type} (st : X → AS) (I : X → Prop) (μ : X → Nat) {a : AC} {Q : Y → AX → AS → Prop} {B : Y → Prop} (x0 : X) (h0 : I x0) (hs : s = st x0)
  (round : ∀ (G : X → Y → Prop) (x : X), I x → (∀ x', I x' → μ x' < μ x → ∃ y, B y ∧ G x' y) → ∃ y, B y ∧ ex P a (.lp (fun s' => ∃ x', s' = st x' ∧ μ x' < μ x ∧ G x' y) :: k) (Q y) (st x)) :
  ∃ y, B y ∧ ex P (.loop a) k (Q y) s := by
 have key : ∀ n x, μ x = n → I x → ∃ y, B y ∧ rnd P a k (Q y) (μ x + 1) (st x) := by
  intro n
  induction n using Nat.strongRecOn with
  | _ n ih =>
   intro x hx hI
   obtain ⟨y, hB, h⟩ := round (fun x' y => rnd P a k (Q y) (μ x' + 1) (st x')) x hI (fun x' h1 h2 => ih (μ x') (by omega) x' rfl h1)
   refine ⟨y, hB, awp_mono a _ _ (fun e s h => ?_) _ h⟩
   cases e with
   | nrm =>
    obtain ⟨x', rfl, h1, h2⟩ := h
    exact rnd_le (by omega) h2
   | ret => exact h
   | ex id => exact h
 subst hs
 obtain ⟨y, hB, h⟩ := key _ x0 rfl h0
 exact ⟨y, hB, ex_rnd _ h⟩
theorem exX {k : Y → List KI} {B : Y → Prop} {Q : Y → AX → AS → Prop} {f : FuncId} {key : Nat} {cs0 cs : List Cel} {vargs : List Val} {d : Option Nat} {r : Val} (hf : FC P f (some cs0) vargs (fun cs' x => cs' = cs ∧ x = r)) (hr : dataRV r = true) (hc : cs.all dataRC = true)
  (h : ∃ y, B y ∧ rg P l kp (k y) (Q y) ({ s with bx := upd s.bx key (some cs) }.put d r)) : ∃ y, B y ∧ CALLX P f key cs0 vargs d l kp (k y) (Q y) s := by
 obtain ⟨y, hB, h⟩ := h
 exact ⟨y, hB, _, hf, ⟨cs, r, rfl, rfl⟩, fun _ _ hx => by obtain ⟨rfl, rfl⟩ := hx; exact ⟨hr, hc, h⟩⟩
theorem exC {k : Y → List KI} {B : Y → Prop} {Q : Y → AX → AS → Prop} {f : FuncId} {vargs : List Val} {pl : Bool} {d : Option Nat} {r : Val} (hf : FC P f none vargs (fun _ x => x = r)) (hr : freshV r = true ∨ (dataRV r = true ∧ pl = true))
  (h : ∃ y, B y ∧ rg P l kp (k y) (Q y) (s.put d r)) : ∃ y, B y ∧ CALL P f vargs pl d l kp (k y) (Q y) s := by
 obtain ⟨y, hB, h⟩ := h
 exact ⟨y, hB, _, hf, ⟨[], r, rfl⟩, fun _ x hx => by subst hx; exact ⟨hr, h⟩⟩
end
/-- f draws at most n numbers and hands back an R: the same one from the same stream. -/
def GenD (P : Program) (f : FuncId) (args : List Val) (n : Nat) (R : Val → Prop) : Prop :=
 ∀ (L : List Int) (p : Int), (∀ x ∈ L, I64 x) → L.length ≤ 9223372036854775807 → 0 ≤ p → p + n ≤ 4611686018427387904 →
  ∃ y : Int × Val, (p ≤ y.1 ∧ y.1 ≤ p + n ∧ R y.2) ∧ FC P f (some (strm L p)) args fun cs r => cs = strm L y.1 ∧ r = y.2
theorem genD_of {P : Program} {f : FuncId} {C : AC} {res : List RV} {n : Nat} {args : List Val} {R : Val → Prop}
  (hf : ∀ (L : List Int) (p : Int) (R' : List Cel → Val → Prop), ex P C [] (fpost (some (strm L p)) res R') (initSt (some (strm L p)) args) → FC P f (some (strm L p)) args R')
  (h : ∀ (L : List Int) (p : Int), (∀ x ∈ L, I64 x) → L.length ≤ 9223372036854775807 → 0 ≤ p → p + n ≤ 4611686018427387904 →
   ∃ y : Int × Val, (p ≤ y.1 ∧ y.1 ≤ p + n ∧ R y.2) ∧ ex P C [] (fpost (some (strm L p)) res (fun cs r => cs = strm L y.1 ∧ r = y.2)) (initSt (some (strm L p)) args)) : GenD P f args n R := by
 intro L p h1 h2 h3 h4
 obtain ⟨y, h5, h6⟩ := h L p h1 h2 h3 h4
 exact ⟨y, h5, hf L p _ h6⟩
theorem next_det (n : Int) (h1 : 1 ≤ n) (hn : n ≤ 9223372036854775807) : GenD Tryz.prog 71 [iv n] 1 (fun r => ∃ x, 0 ≤ x ∧ x < n ∧ r = iv x) := by
 refine genD_of (fun L p R' h => fc_next (xt := some (strm L p)) (args := [iv n]) (R := R') (by simp +arith) h) ?_
 intro L p hL hl h0 hp
 have e0 : ∀ x, 0 ≤ x % n ∧ x % n < n := fun x => ⟨Int.emod_nonneg x (by omega), Int.emod_lt_of_pos x (by omega)⟩
 unfold C_next strm
 by_cases c : L.length = 0
 ·simp (maxSteps := 1000000) (disch := omega) only [go_sem]
  refine exC (below_fc _ n h1 hn (wrap_in _)) (.inl rfl) ?_
  simp (maxSteps := 1000000) (disch := omega) only [go_sem]
  exact ⟨(p + 1, _), ⟨by simp; omega, by simp, _, (e0 _).1, (e0 _).2, rfl⟩, rfl, rfl⟩
 ·have h3 : 0 < (L.length : Int) := by omega
  have h4 : (p + 1 - 1).tmod (L.length : Int) = (p + 1 - 1) % (L.length : Int) := Int.tmod_eq_emod_of_nonneg (by omega)
  have h5 := Int.emod_nonneg (p + 1 - 1) (show (L.length : Int) ≠ 0 by omega)
  have h6 := Int.emod_lt_of_pos (p + 1 - 1) h3
  have hb := below_fc (L.getD ((p + 1 - 1) % (L.length : Int)).toNat default) 1073741824 (by omega) (by omega) (hL _ (getD_mem _ _ (by omega)))
  rw [← h4] at hb h5 h6
  simp (maxSteps := 1000000) (disch := omega) only [go_sem]
  refine exC hb (.inl rfl) ?_
  simp (maxSteps := 1000000) (disch := omega) only [go_sem]
  refine exC (below_fc _ n h1 hn (wrap_in _)) (.inl rfl) ?_
  simp (maxSteps := 1000000) (disch := omega) only [go_sem]
  exact ⟨(p + 1, _), ⟨by simp; omega, by simp, _, (e0 _).1, (e0 _).2, rfl⟩, rfl, rfl⟩
theorem range_det (lo hi : Int) (h1 : lo ≤ hi) (h2 : -4611686018427387904 ≤ lo) (h3 : hi ≤ 4611686018427387902) : GenD Tryz.prog 70 [iv lo, iv hi] 1 (fun r => ∃ x, lo ≤ x ∧ x ≤ hi ∧ r = iv x) := by
 refine genD_of (fun L p R' h => fc_range (xt := some (strm L p)) (args := [iv lo, iv hi]) (R := R') (by simp +arith) h) ?_
 intro L p hL hl h0 hp
 unfold C_range strm
 simp (maxSteps := 1000000) (disch := omega) only [go_sem]
 obtain ⟨⟨pa, ra⟩, ⟨haa, hba, xa, ka, na, rfl⟩, hfa⟩ := (next_det (hi - lo + 1) (by omega) (by omega)) L p hL hl (by omega) (by omega)
 simp only at haa hba hfa
 refine exX hfa rfl rfl ?_
 unfold strm
 simp (maxSteps := 1000000) (disch := omega) only [go_sem]
 exact ⟨(pa, _), ⟨by omega, by simp; omega, _, by omega, by omega, rfl⟩, rfl, rfl⟩
theorem flip_det (n : Int) (h1 : 1 ≤ n) (hn : n ≤ 9223372036854775807) : GenD Tryz.prog 10 [iv n] 1 (fun r => ∃ b, r = bv b) := by
 refine genD_of (fun L p R' h => fc_flip (xt := some (strm L p)) (args := [iv n]) (R := R') (by simp +arith) h) ?_
 intro L p hL hl h0 hp
 unfold C_flip strm
 simp (maxSteps := 1000000) (disch := omega) only [go_sem]
 obtain ⟨⟨pa, ra⟩, ⟨haa, hba, xa, ka, na, rfl⟩, hfa⟩ := (next_det n h1 hn) L p hL hl (by omega) (by omega)
 simp only at haa hba hfa
 refine exX hfa rfl rfl ?_
 unfold strm
 simp (maxSteps := 1000000) (disch := omega) only [go_sem]
 exact ⟨(pa, _), ⟨by omega, by simp; omega, _, rfl⟩, rfl, rfl⟩
theorem pick_det (fr : Bool) (l : List Int) (h1 : 0 < l.length) (h2 : l.length ≤ 9223372036854775807) : GenD Tryz.prog 55 [ints fr l] 1 (fun r => ∃ x ∈ l, r = iv x) := by
 refine genD_of (fun L p R' h => fc_pick (xt := some (strm L p)) (args := [ints fr l]) (R := R') (by simp +arith) h) ?_
 intro L p hL hl h0 hp
 unfold C_pick strm
 simp (maxSteps := 1000000) (disch := omega) only [go_sem]
 obtain ⟨⟨pa, ra⟩, ⟨haa, hba, xa, ka, na, rfl⟩, hfa⟩ := (next_det l.length (by omega) (by omega)) L p hL hl (by omega) (by omega)
 simp only at haa hba hfa
 refine exX hfa rfl rfl ?_
 unfold strm
 simp (maxSteps := 1000000) (disch := omega) only [go_sem]
 exact ⟨(pa, _), ⟨by omega, by simp; omega, _, getD_mem _ _ (by omega), rfl⟩, rfl, rfl⟩
theorem odd_det (lo hi : Int) (h1 : lo ≤ hi) (h2 : -1152921504606846976 ≤ lo) (h3 : hi ≤ 1152921504606846976) : GenD Tryz.prog 72 [iv lo, iv hi] 2 (fun r => ∃ x, I64 x ∧ r = iv x) := by
 refine genD_of (fun L p R' h => fc_odd (xt := some (strm L p)) (args := [iv lo, iv hi]) (R := R') (by simp +arith) h) ?_
 intro L p hL hl h0 hp
 unfold C_odd strm
 simp (maxSteps := 1000000) (disch := omega) only [go_sem]
 obtain ⟨⟨pa, ra⟩, ⟨haa, hba, ba, rfl⟩, hfa⟩ := (flip_det 12 (by omega) (by omega)) L p hL hl (by omega) (by omega)
 simp only at haa hba hfa
 refine exX hfa rfl rfl ?_
 unfold strm
 simp (maxSteps := 1000000) (disch := omega) only [go_sem]
 cases ba with
 | true =>
  simp (maxSteps := 1000000) (disch := omega) only [go_sem]
  obtain ⟨⟨pb, rb⟩, ⟨hab, hbb, xb, kb, rfl⟩, hfb⟩ := (pick_det false [lo - 1, hi + 1, lo, hi, -1099511627776, 1099511627776] (by simp) (by simp)) L pa hL hl (by omega) (by omega)
  simp only at hab hbb hfb
  refine exX hfb rfl rfl ?_
  unfold strm
  simp (maxSteps := 1000000) (disch := omega) only [go_sem]
  simp only [List.mem_cons, List.not_mem_nil, or_false] at kb
  exact ⟨(pb, _), ⟨by simp only; omega, by simp only; omega, xb, by unfold I64; omega, rfl⟩, rfl, rfl⟩
 | false =>
  simp (maxSteps := 1000000) (disch := omega) only [go_sem]
  obtain ⟨⟨pb, rb⟩, ⟨hab, hbb, xb, kb, nb, rfl⟩, hfb⟩ := (range_det lo hi h1 (by omega) (by omega)) L pa hL hl (by omega) (by omega)
  simp only at hab hbb hfb
  refine exX hfb rfl rfl ?_
  unfold strm
  simp (maxSteps := 1000000) (disch := omega) only [go_sem]
  exact ⟨(pb, _), ⟨by simp only; omega, by simp only; omega, xb, by unfold I64; omega, rfl⟩, rfl, rfl⟩
theorem curve_det (most : Int) (hm : 0 ≤ most) (hm2 : most ≤ 1000) : GenD Tryz.prog 73 [iv most] 4000 (fun r => ∃ l : List Smp, l.length ≤ most ∧ (∀ x ∈ l, x.in64) ∧ r = smps true l) := by
 refine genD_of (fun L p R' h => fc_curve (xt := some (strm L p)) (args := [iv most]) (R := R') (by simp +arith) h) ?_
 intro L p hL hl h0 hp
 unfold C_curve strm
 simp (maxSteps := 1000000) (disch := omega) only [go_sem]
 obtain ⟨⟨px, rx⟩, ⟨hax, hbx, x, hx, rfl⟩, hfx⟩ := (pick_det false [0, 0, 5, 40] (by simp) (by simp)) L p hL hl (by omega) (by omega)
 simp only at hax hbx hfx
 simp only [List.mem_cons, List.not_mem_nil, or_false] at hx
 refine exX hfx rfl rfl ?_
 unfold strm
 simp (maxSteps := 1000000) (disch := omega) only [go_sem]
 obtain ⟨⟨py, ry⟩, ⟨hay, hby, y, hy, rfl⟩, hfy⟩ := (pick_det false [0, 5, 10, -3] (by simp) (by simp)) L px hL hl (by omega) (by omega)
 simp only at hay hby hfy
 simp only [List.mem_cons, List.not_mem_nil, or_false] at hy
 refine exX hfy rfl rfl ?_
 unfold strm
 simp (maxSteps := 1000000) (disch := omega) only [go_sem]
 obtain ⟨⟨pn, rn⟩, ⟨han, hbn, n, hn, hn2, rfl⟩, hfn⟩ := (range_det 0 most (by omega) (by omega) (by omega)) L py hL hl (by omega) (by omega)
 simp only at han hbn hfn
 refine exX hfn rfl rfl ?_
 unfold strm
 simp (maxSteps := 1000000) (disch := omega) only [go_sem]
 refine loopD (curveSt L n) (fun x => 0 ≤ x.i ∧ x.i ≤ n ∧ x.l.length = x.i ∧ p ≤ x.p ∧ x.p ≤ p + 3 + 3 * x.i ∧ -100 * x.i - 100 ≤ x.a ∧ x.a ≤ 100 * x.i + 100 ∧ -100 * x.i - 100 ≤ x.v ∧ x.v ≤ 100 * x.i + 100 ∧ ∀ z ∈ x.l, -200000 ≤ z.a ∧ z.a ≤ 200000 ∧ -200000 ≤ z.v ∧ z.v ≤ 200000 ∧ 0 ≤ z.q ∧ z.q ≤ 2) (fun x => (n - x.i).toNat) ⟨0, x, y, pn, []⟩ ⟨by simp, by simp; omega, by simp, by simp; omega, by simp; omega, by simp; omega, by simp; omega, by simp; omega, by simp; omega, by simp⟩ rfl ?_
 rintro G ⟨i, a, v, q, l⟩ ⟨g1, g2, g3, g4, g5, g6, g7, g8, g9, g10⟩ IH
 simp only at g1 g2 g3 g4 g5 g6 g7 g8 g9 g10
 unfold curveSt strm
 by_cases hi : i < n
 ·simp (maxSteps := 1000000) (disch := omega) only [go_sem]
  obtain ⟨⟨pa, ra⟩, ⟨haa, hba, za, ka, rfl⟩, hfa⟩ := (pick_det false [0, 0, 0, 0, 0, 1, 2] (by simp) (by simp)) L q hL hl (by omega) (by omega)
  simp only at haa hba hfa
  simp only [List.mem_cons, List.not_mem_nil, or_false] at ka
  by_cases hq : za = 2
  ·refine exX hfa rfl rfl ?_
   unfold strm
   simp (maxSteps := 1000000) (disch := omega) only [go_sem]
   obtain ⟨⟨pb, rb⟩, ⟨hab, hbb, zb, kb, rfl⟩, hfb⟩ := (pick_det false [1, 1, 2, 5, 10, 30] (by simp) (by simp)) L pa hL hl (by omega) (by omega)
   simp only at hab hbb hfb
   simp only [List.mem_cons, List.not_mem_nil, or_false] at kb
   refine exX hfb rfl rfl ?_
   unfold strm
   simp (maxSteps := 1000000) (disch := omega) only [go_sem]
   obtain ⟨⟨pc, rc⟩, ⟨hac, hbc, zc, kc, rfl⟩, hfc⟩ := (pick_det false [0, 0, 1, 1, 2, -1, -1, -4, 6] (by simp) (by simp)) L pb hL hl (by omega) (by omega)
   simp only at hac hbc hfc
   simp only [List.mem_cons, List.not_mem_nil, or_false] at kc
   refine exX hfc rfl rfl ?_
   unfold strm
   simp (maxSteps := 1000000) (disch := omega) only [go_sem]
   obtain ⟨yy, hB, hG⟩ := IH ⟨i + 1, a + zb, v + zc, pc, l ++ [⟨a, 0, za⟩]⟩ ⟨by simp; omega, by simp; omega, by simp; omega, by simp; omega, by simp; omega, by simp; omega, by simp; omega, by simp; omega, by simp; omega, fun z hz => by
    simp only [List.mem_append, List.mem_cons, List.not_mem_nil, or_false] at hz
    rcases hz with hz | rfl
    ·exact g10 z hz
    ·simp only; omega⟩ (by simp; omega)
   exact ⟨yy, hB, _, by simp [curveSt, strm, smpC_eq], by simp; omega, hG⟩
  ·refine exX hfa rfl rfl ?_
   unfold strm
   simp (maxSteps := 1000000) (disch := omega) only [go_sem]
   obtain ⟨⟨pb, rb⟩, ⟨hab, hbb, zb, kb, rfl⟩, hfb⟩ := (pick_det false [1, 1, 2, 5, 10, 30] (by simp) (by simp)) L pa hL hl (by omega) (by omega)
   simp only at hab hbb hfb
   simp only [List.mem_cons, List.not_mem_nil, or_false] at kb
   refine exX hfb rfl rfl ?_
   unfold strm
   simp (maxSteps := 1000000) (disch := omega) only [go_sem]
   obtain ⟨⟨pc, rc⟩, ⟨hac, hbc, zc, kc, rfl⟩, hfc⟩ := (pick_det false [0, 0, 1, 1, 2, -1, -1, -4, 6] (by simp) (by simp)) L pb hL hl (by omega) (by omega)
   simp only at hac hbc hfc
   simp only [List.mem_cons, List.not_mem_nil, or_false] at kc
   refine exX hfc rfl rfl ?_
   unfold strm
   simp (maxSteps := 1000000) (disch := omega) only [go_sem]
   obtain ⟨yy, hB, hG⟩ := IH ⟨i + 1, a + zb, v + zc, pc, l ++ [⟨a, v, za⟩]⟩ ⟨by simp; omega, by simp; omega, by simp; omega, by simp; omega, by simp; omega, by simp; omega, by simp; omega, by simp; omega, by simp; omega, fun z hz => by
    simp only [List.mem_append, List.mem_cons, List.not_mem_nil, or_false] at hz
    rcases hz with hz | rfl
    ·exact g10 z hz
    ·simp only; omega⟩ (by simp; omega)
   exact ⟨yy, hB, _, by simp [curveSt, strm, smpC_eq], by simp; omega, hG⟩
 ·have g11 : ∀ z ∈ l, z.in64 := fun z hz => by have := g10 z hz; unfold Smp.in64 I64; omega
  clear IH
  by_cases hlen : 0 < l.length
  ·simp (maxSteps := 1000000) (disch := omega) only [go_sem]
   obtain ⟨⟨pd, rd⟩, ⟨had, hbd, bd, rfl⟩, hfd⟩ := (flip_det 12 (by omega) (by omega)) L q hL hl (by omega) (by omega)
   simp only at had hbd hfd
   cases bd with
   | false =>
    refine exX hfd rfl rfl ?_
    unfold strm
    simp (maxSteps := 1000000) (disch := omega) only [go_sem]
    exact ⟨(pd, _), ⟨by simp only; omega, by simp only; omega, l, by omega, g11, rfl⟩, rfl, rfl⟩
   | true =>
    refine exX hfd rfl rfl ?_
    unfold strm
    simp (maxSteps := 1000000) (disch := omega) only [go_sem]
    obtain ⟨⟨pe, re⟩, ⟨hae, hbe, ze, ke, ne, rfl⟩, hfe⟩ := (next_det l.length (by omega) (by omega)) L pd hL hl (by omega) (by omega)
    simp only at hae hbe hfe
    have gy := g11 _ (getD_mem l ze.toNat (by omega))
    refine exX hfe rfl rfl ?_
    unfold strm
    simp (maxSteps := 1000000) (disch := omega) only [go_sem]
    obtain ⟨⟨pf, rf⟩, ⟨haf, hbf, zf, kf, nf, rfl⟩, hff⟩ := (next_det 3 (by omega) (by omega)) L pe hL hl (by omega) (by omega)
    simp only at haf hbf hff
    by_cases hf0 : zf = 0
    ·refine exX hff rfl rfl ?_
     unfold strm
     simp (maxSteps := 1000000) (disch := omega) only [go_sem]
     obtain ⟨⟨pg, rg⟩, ⟨hag, hbg, zg, kg, rfl⟩, hfg⟩ := (pick_det false [IntKind.i64.wrap ((l.getD ze.toNat default).a - 40), -1, 345686400000, IntKind.i64.wrap ((l.getD ze.toNat default).a + 3)] (by simp) (by simp)) L pf hL hl (by omega) (by omega)
     simp only at hag hbg hfg
     simp only [List.mem_cons, List.not_mem_nil, or_false] at kg
     have hg : I64 zg := by
      have w1 := wrap_in ((l.getD ze.toNat default).a - 40)
      have w2 := wrap_in ((l.getD ze.toNat default).a + 3)
      unfold I64 at *; omega
     refine exX hfg rfl rfl ?_
     unfold strm
     simp (maxSteps := 1000000) (disch := omega) only [go_sem]
     refine ⟨(pg, _), ⟨by simp only; omega, by simp only; omega, l.set ze.toNat ⟨zg, (l.getD ze.toNat default).v, (l.getD ze.toNat default).q⟩, by simp; omega, fun x hx => ?_, by simp [smps, smpC_eq, List.map_set, frE_set, frE_smp, freshC]⟩, rfl, rfl⟩
     rcases List.mem_or_eq_of_mem_set hx with hx | rfl
     ·exact g11 x hx
     ·exact ⟨hg, gy.2.1, gy.2.2⟩
    ·by_cases hf1 : zf = 1
     ·refine exX hff rfl rfl ?_
      unfold strm
      simp (maxSteps := 1000000) (disch := omega) only [go_sem]
      obtain ⟨⟨pg, rg⟩, ⟨hag, hbg, zg, hzg, rfl⟩, hfg⟩ := (odd_det (-1000000) 1000000 (by omega) (by omega) (by omega)) L pf hL hl (by omega) (by omega)
      simp only at hag hbg hfg
      refine exX hfg rfl rfl ?_
      unfold strm
      simp (maxSteps := 1000000) (disch := omega) only [go_sem]
      refine ⟨(pg, _), ⟨by simp only; omega, by simp only; omega, l.set ze.toNat ⟨(l.getD ze.toNat default).a, zg, (l.getD ze.toNat default).q⟩, by simp; omega, fun x hx => ?_, by simp [smps, smpC_eq, List.map_set, frE_set, frE_smp, freshC]⟩, rfl, rfl⟩
      rcases List.mem_or_eq_of_mem_set hx with hx | rfl
      ·exact g11 x hx
      ·exact ⟨gy.1, hzg, gy.2.2⟩
     ·refine exX hff rfl rfl ?_
      unfold strm
      simp (maxSteps := 1000000) (disch := omega) only [go_sem]
      obtain ⟨⟨pg, rg⟩, ⟨hag, hbg, zg, hzg, rfl⟩, hfg⟩ := (odd_det 0 2 (by omega) (by omega) (by omega)) L pf hL hl (by omega) (by omega)
      simp only at hag hbg hfg
      refine exX hfg rfl rfl ?_
      unfold strm
      simp (maxSteps := 1000000) (disch := omega) only [go_sem]
      refine ⟨(pg, _), ⟨by simp only; omega, by simp only; omega, l.set ze.toNat ⟨(l.getD ze.toNat default).a, (l.getD ze.toNat default).v, zg⟩, by simp; omega, fun x hx => ?_, by simp [smps, smpC_eq, List.map_set, frE_set, frE_smp, freshC]⟩, rfl, rfl⟩
      rcases List.mem_or_eq_of_mem_set hx with hx | rfl
      ·exact g11 x hx
      ·exact ⟨gy.1, gy.2.1, hzg⟩
  ·simp (maxSteps := 1000000) (disch := omega) only [go_sem]
   exact ⟨(q, _), ⟨by simp only; omega, by simp only; omega, l, by omega, g11, rfl⟩, rfl, rfl⟩
end Go.Proofs.YtfgkpbkphmeigaaGreatDoor
namespace Go.Proofs.YtfgkpbkphmeigaaGreatDoor
open Go Go.Ai
set_option linter.unusedSimpArgs false
set_option linter.unusedVariables false
set_option maxHeartbeats 4000000
theorem some_det (fr : Bool) (l : List ByteArray) (h1 : 0 < l.length) (h2 : l.length ≤ 9223372036854775807) : GenD Tryz.prog 30 [strs fr l] 1 (fun r => ∃ x ∈ l, r = sv x) := by
 refine genD_of (fun L p R' h => fc_some_ (xt := some (strm L p)) (args := [strs fr l]) (R := R') (by simp +arith) h) ?_
 intro L p hL hl h0 hp
 unfold C_some_ strm
 simp (maxSteps := 1000000) (disch := omega) only [go_sem]
 obtain ⟨⟨pa, ra⟩, ⟨haa, hba, xa, ka, na, rfl⟩, hfa⟩ := (next_det l.length (by omega) (by omega)) L p hL hl (by omega) (by omega)
 simp only at haa hba hfa
 refine exX hfa rfl rfl ?_
 have em := getD_str l xa ka na
 unfold strm
 simp (maxSteps := 1000000) (disch := omega) only [go_sem]
 exact ⟨(pa, _), ⟨by omega, by simp; omega, _, getD_memB _ _ (by omega), rfl⟩, rfl, rfl⟩
end Go.Proofs.YtfgkpbkphmeigaaGreatDoor

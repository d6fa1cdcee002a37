
/-
 Some: one of some strings, drawn.
 Right curves that streams draw.
 Generators draw the same from the same stream: their contracts with one result each.
 Some: one result from one stream.
-/
import Derived.Test.YtdhkejcldipbmaaGreatDoorBas
namespace Go.Proofs.YtdhkejcldipbmaaGreatDoor
open Go Go.Ai
set_option linter.unusedSimpArgs false
set_option linter.unusedVariables false
set_option maxHeartbeats 4000000
def C_some_ : AC := (.seq (.reg false [gI 4 (.mv (.v (.string (ByteArray.mk #[]))))] (kP [0,1] [0] []))
 (.seq (.reg false [gM 5 1,gM 6 0,gM 7 1,gI 8 (.len (.t 7)),gI 9 (.callx (.f 27) [(.t 6),(.t 8)]),gI 10 (.iadr 1 (.t 5) (.t 9)),gI 11 (.load false 1 (.t 10)),gM 4 11] (kP [4] [0] []))
 .ret))
theorem fc_some_ : FcT Tryz.prog 5 Tryz.f5 C_some_ [.t 4] := fc_mk [aN [0,1] [0] [],aN [4] [0] []] Tryz.func5 (by kernel_rfl)
def strC (b : ByteArray) : List Cel := [.g (.string b)]
theorem strC_eq (b : ByteArray) : strC b = [.g (.string b)] := rfl
abbrev strs (fr : Bool) (l : List ByteArray) : Val := .one (.sl fr 1 (l.map strC))
theorem getD_str (l : List ByteArray) (i : Int) (h0 : 0 ≤ i) (h : i < l.length) : (l.map strC).getD i.toNat [] = [.g (.string (l.getD i.toNat default))] := by
 rw [List.getD_eq_getElem?_getD, List.getElem?_map, List.getElem?_eq_getElem (show i.toNat < l.length by omega), List.getD_eq_getElem?_getD, List.getElem?_eq_getElem (show i.toNat < l.length by omega)]; rfl
theorem getD_memB (l : List ByteArray) (i : Nat) (h : i < l.length) : l.getD i default ∈ l := by
 rw [List.getD_eq_getElem?_getD, List.getElem?_eq_getElem h]; exact List.getElem_mem _
theorem some_fc (fr : Bool) (l : List ByteArray) (h1 : 0 < l.length) (h2 : l.length ≤ 9223372036854775807) : Gen Tryz.prog 5 [strs fr l] 1 (fun r => ∃ x ∈ l, r = sv x) := by
 intro L p hL hl h0 hp
 refine fc_some_ (by simp +arith) ?_
 unfold C_some_ strm
 simp (maxSteps := 1000000) (disch := omega) only [go_sem]
 refine callx_gen (next_fc l.length (by omega) (by omega)) hL hl h0 hp ⟨_, 0, by omega, by omega, rfl⟩ ?_
 rintro p' r h4 h5 ⟨x, h6, h7, rfl⟩
 refine ⟨rfl, ?_⟩
 have em := getD_str l x h6 h7
 unfold strm
 simp (maxSteps := 1000000) (disch := omega) only [go_sem]
 exact ⟨⟨p', by omega, by omega, rfl⟩, _, getD_memB _ _ (by omega), rfl⟩
end Go.Proofs.YtdhkejcldipbmaaGreatDoor
namespace Go.Proofs.YtdhkejcldipbmaaGreatDoor
open Go Go.Ai
set_option linter.unusedSimpArgs false
set_option linter.unusedVariables false
set_option maxHeartbeats 4000000
def rcSt (L : List Int) (most j q : Int) : AS := ⟨tabV [(0, .one (.bx 0 0)), (1, iv most), (6, iv j)], tabO [(0, strm L q)], tabO []⟩
end Go.Proofs.YtdhkejcldipbmaaGreatDoor
namespace Go.Proofs.YtdhkejcldipbmaaGreatDoor
open Go Go.Ai
set_option linter.unusedSimpArgs false
set_option linter.unusedVariables false
set_option maxHeartbeats 4000000
section
variable {P : Program} {s : AS} {k : List KI} {kp : Option Keep} {l : List GI} {Y : Type}
theorem rnd_mono {a : AC} {Q : AX → AS → Prop} : ∀ (n : Nat) (s : AS), rnd P a k Q n s → rnd P a k Q (n + 1) s
 | 0, s, h => h.elim
 | n + 1, s, h => by
  refine awp_mono a _ _ (fun e s h => ?_) s h
  cases e with
  | nrm => exact rnd_mono n s h
  | ret => exact h
  | ex id => exact h
theorem rnd_le {a : AC} {Q : AX → AS → Prop} {n m : Nat} {s : AS} (hnm : n ≤ m) (h : rnd P a k Q n s) : rnd P a k Q m s := by
 induction hnm with
 | refl => exact h
 | step _ ih => exact rnd_mono _ _ ih
/-- A loop that ends with one result. -/
theorem loopD {X : Type} (st : X → AS) (I : X → Prop) (μ : X → Nat) {a : AC} {Q : Y → AX → AS → Prop} {B : Y → Prop} (x0 : X) (h0 : I x0) (hs : s = st x0)
  (round : ∀ (G : X → Y → Prop) (x : X), I x → (∀ x', I x' → μ x' < μ x → ∃ y, B y ∧ G x' y) → ∃ y, B y ∧ ex P a (.lp (fun s' => ∃ x', s' = st x' ∧ μ x' < μ x ∧ G x' y) :: k) (Q y) (st x)) :
  ∃ y, B y ∧ ex P (.loop a) k (Q y) s := by
 have key : ∀ n x, μ x = n → I x → ∃ y, B y ∧ rnd P a k (Q y) (μ x + 1) (st x) := by
  intro n
  induction n using Nat.strongRecOn with
  | _ n ih =>
   intro x hx hI
   obtain ⟨y, hB, h⟩ := round (fun x' y => rnd P a k (Q y) (μ x' + 1) (st x')) x hI (fun x' h1 h2 => ih (μ x') (by omega) x' rfl h1)
   refine ⟨y, hB, awp_mono a _ _ (fun e s h => ?_) _ h⟩
   cases e with
   | nrm =>
    obtain ⟨x', rfl, h1, h2⟩ := h
    exact rnd_le (by omega) h2
   | ret => exact h
   | ex id => exact h
 subst hs
 obtain ⟨y, hB, h⟩ := key _ x0 rfl h0
 exact ⟨y, hB, ex_rnd _ h⟩
theorem exX {k : Y → List KI} {B : Y → Prop} {Q : Y → AX → AS → Prop} {f : FuncId} {key : Nat} {cs0 cs : List Cel} {vargs : List Val} {d : Option Nat} {r : Val} (hf : FC P f (some cs0) vargs (fun cs' x => cs' = cs ∧ x = r)) (hr : dataRV r = true) (hc : cs.all dataRC = true)
  (h : ∃ y, B y ∧ rg P l kp (k y) (Q y) ({ s with bx := upd s.bx key (some cs) }.put d r)) : ∃ y, B y ∧ CALLX P f key cs0 vargs d l kp (k y) (Q y) s := by
 obtain ⟨y, hB, h⟩ := h
 exact ⟨y, hB, _, hf, ⟨cs, r, rfl, rfl⟩, fun _ _ hx => by obtain ⟨rfl, rfl⟩ := hx; exact ⟨hr, hc, h⟩⟩
theorem exC {k : Y → List KI} {B : Y → Prop} {Q : Y → AX → AS → Prop} {f : FuncId} {vargs : List Val} {pl : Bool} {d : Option Nat} {r : Val} (hf : FC P f none vargs (fun _ x => x = r)) (hr : freshV r = true ∨ (dataRV r = true ∧ pl = true))
  (h : ∃ y, B y ∧ rg P l kp (k y) (Q y) (s.put d r)) : ∃ y, B y ∧ CALL P f vargs pl d l kp (k y) (Q y) s := by
 obtain ⟨y, hB, h⟩ := h
 exact ⟨y, hB, _, hf, ⟨[], r, rfl⟩, fun _ x hx => by subst hx; exact ⟨hr, h⟩⟩
end
/-- f draws at most n numbers and hands back an R: the same one from the same stream. -/
def GenD (P : Program) (f : FuncId) (args : List Val) (n : Nat) (R : Val → Prop) : Prop :=
 ∀ (L : List Int) (p : Int), (∀ x ∈ L, I64 x) → L.length ≤ 9223372036854775807 → 0 ≤ p → p + n ≤ 4611686018427387904 →
  ∃ y : Int × Val, (p ≤ y.1 ∧ y.1 ≤ p + n ∧ R y.2) ∧ FC P f (some (strm L p)) args fun cs r => cs = strm L y.1 ∧ r = y.2
theorem str_data (L : List Int) (p : Int) : (strm L p).all dataRC = true := rfl
theorem genD_of {P : Program} {f : FuncId} {C : AC} {res : List RV} {n : Nat} {args : List Val} {R : Val → Prop}
  (hf : ∀ (L : List Int) (p : Int) (R' : List Cel → Val → Prop), ex P C [] (fpost (some (strm L p)) res R') (initSt (some (strm L p)) args) → FC P f (some (strm L p)) args R')
  (h : ∀ (L : List Int) (p : Int), (∀ x ∈ L, I64 x) → L.length ≤ 9223372036854775807 → 0 ≤ p → p + n ≤ 4611686018427387904 →
   ∃ y : Int × Val, (p ≤ y.1 ∧ y.1 ≤ p + n ∧ R y.2) ∧ ex P C [] (fpost (some (strm L p)) res (fun cs r => cs = strm L y.1 ∧ r = y.2)) (initSt (some (strm L p)) args)) : GenD P f args n R := by
 intro L p h1 h2 h3 h4
 obtain ⟨y, h5, h6⟩ := h L p h1 h2 h3 h4
 exact ⟨y, h5, hf L p _ h6⟩
theorem next_det (n : Int) (h1 : 1 ≤ n) (hn : n ≤ 9223372036854775807) : GenD Tryz.prog 27 [iv n] 1 (fun r => ∃ x, 0 ≤ x ∧ x < n ∧ r = iv x) := by
 refine genD_of (fun L p R' h => fc_next (xt := some (strm L p)) (args := [iv n]) (R := R') (by simp +arith) h) ?_
 intro L p hL hl h0 hp
 have e0 : ∀ x, 0 ≤ x % n ∧ x % n < n := fun x => ⟨Int.emod_nonneg x (by omega), Int.emod_lt_of_pos x (by omega)⟩
 unfold C_next strm
 by_cases c : L.length = 0
 ·simp (maxSteps := 1000000) (disch := omega) only [go_sem]
  refine exC (below_fc _ n h1 hn (wrap_in _)) (.inl rfl) ?_
  simp (maxSteps := 1000000) (disch := omega) only [go_sem]
  exact ⟨(p + 1, _), ⟨by simp; omega, by simp, _, (e0 _).1, (e0 _).2, rfl⟩, rfl, rfl⟩
 ·have h3 : 0 < (L.length : Int) := by omega
  have h4 : (p + 1 - 1).tmod (L.length : Int) = (p + 1 - 1) % (L.length : Int) := Int.tmod_eq_emod_of_nonneg (by omega)
  have h5 := Int.emod_nonneg (p + 1 - 1) (show (L.length : Int) ≠ 0 by omega)
  have h6 := Int.emod_lt_of_pos (p + 1 - 1) h3
  have hb := below_fc (L.getD ((p + 1 - 1) % (L.length : Int)).toNat default) 1073741824 (by omega) (by omega) (hL _ (getD_mem _ _ (by omega)))
  rw [← h4] at hb h5 h6
  simp (maxSteps := 1000000) (disch := omega) only [go_sem]
  refine exC hb (.inl rfl) ?_
  simp (maxSteps := 1000000) (disch := omega) only [go_sem]
  refine exC (below_fc _ n h1 hn (wrap_in _)) (.inl rfl) ?_
  simp (maxSteps := 1000000) (disch := omega) only [go_sem]
  exact ⟨(p + 1, _), ⟨by simp; omega, by simp, _, (e0 _).1, (e0 _).2, rfl⟩, rfl, rfl⟩
theorem range_det (lo hi : Int) (h1 : lo ≤ hi) (h2 : -4611686018427387904 ≤ lo) (h3 : hi ≤ 4611686018427387902) : GenD Tryz.prog 25 [iv lo, iv hi] 1 (fun r => ∃ x, lo ≤ x ∧ x ≤ hi ∧ r = iv x) := by
 refine genD_of (fun L p R' h => fc_range (xt := some (strm L p)) (args := [iv lo, iv hi]) (R := R') (by simp +arith) h) ?_
 intro L p hL hl h0 hp
 unfold C_range strm
 simp (maxSteps := 1000000) (disch := omega) only [go_sem]
 obtain ⟨⟨pa, ra⟩, ⟨haa, hba, xa, ka, na, rfl⟩, hfa⟩ := (next_det (hi - lo + 1) (by omega) (by omega)) L p hL hl (by omega) (by omega)
 simp only at haa hba hfa
 refine exX hfa rfl rfl ?_
 unfold strm
 simp (maxSteps := 1000000) (disch := omega) only [go_sem]
 exact ⟨(pa, _), ⟨by omega, by simp; omega, _, by omega, by omega, rfl⟩, rfl, rfl⟩
theorem flip_det (n : Int) (h1 : 1 ≤ n) (hn : n ≤ 9223372036854775807) : GenD Tryz.prog 23 [iv n] 1 (fun r => ∃ b, r = bv b) := by
 refine genD_of (fun L p R' h => fc_flip (xt := some (strm L p)) (args := [iv n]) (R := R') (by simp +arith) h) ?_
 intro L p hL hl h0 hp
 unfold C_flip strm
 simp (maxSteps := 1000000) (disch := omega) only [go_sem]
 obtain ⟨⟨pa, ra⟩, ⟨haa, hba, xa, ka, na, rfl⟩, hfa⟩ := (next_det n h1 hn) L p hL hl (by omega) (by omega)
 simp only at haa hba hfa
 refine exX hfa rfl rfl ?_
 unfold strm
 simp (maxSteps := 1000000) (disch := omega) only [go_sem]
 exact ⟨(pa, _), ⟨by omega, by simp; omega, _, rfl⟩, rfl, rfl⟩
theorem pick_det (fr : Bool) (l : List Int) (h1 : 0 < l.length) (h2 : l.length ≤ 9223372036854775807) : GenD Tryz.prog 24 [ints fr l] 1 (fun r => ∃ x ∈ l, r = iv x) := by
 refine genD_of (fun L p R' h => fc_pick (xt := some (strm L p)) (args := [ints fr l]) (R := R') (by simp +arith) h) ?_
 intro L p hL hl h0 hp
 unfold C_pick strm
 simp (maxSteps := 1000000) (disch := omega) only [go_sem]
 obtain ⟨⟨pa, ra⟩, ⟨haa, hba, xa, ka, na, rfl⟩, hfa⟩ := (next_det l.length (by omega) (by omega)) L p hL hl (by omega) (by omega)
 simp only at haa hba hfa
 refine exX hfa rfl rfl ?_
 unfold strm
 simp (maxSteps := 1000000) (disch := omega) only [go_sem]
 exact ⟨(pa, _), ⟨by omega, by simp; omega, _, getD_mem _ _ (by omega), rfl⟩, rfl, rfl⟩
theorem odd_det (lo hi : Int) (h1 : lo ≤ hi) (h2 : -1152921504606846976 ≤ lo) (h3 : hi ≤ 1152921504606846976) : GenD Tryz.prog 29 [iv lo, iv hi] 2 (fun r => ∃ x, I64 x ∧ r = iv x) := by
 refine genD_of (fun L p R' h => fc_odd (xt := some (strm L p)) (args := [iv lo, iv hi]) (R := R') (by simp +arith) h) ?_
 intro L p hL hl h0 hp
 unfold C_odd strm
 simp (maxSteps := 1000000) (disch := omega) only [go_sem]
 obtain ⟨⟨pa, ra⟩, ⟨haa, hba, ba, rfl⟩, hfa⟩ := (flip_det 12 (by omega) (by omega)) L p hL hl (by omega) (by omega)
 simp only at haa hba hfa
 refine exX hfa rfl rfl ?_
 unfold strm
 simp (maxSteps := 1000000) (disch := omega) only [go_sem]
 cases ba with
 | true =>
  simp (maxSteps := 1000000) (disch := omega) only [go_sem]
  obtain ⟨⟨pb, rb⟩, ⟨hab, hbb, xb, kb, rfl⟩, hfb⟩ := (pick_det false [lo - 1, hi + 1, lo, hi, -1099511627776, 1099511627776] (by simp) (by simp)) L pa hL hl (by omega) (by omega)
  simp only at hab hbb hfb
  refine exX hfb rfl rfl ?_
  unfold strm
  simp (maxSteps := 1000000) (disch := omega) only [go_sem]
  simp only [List.mem_cons, List.not_mem_nil, or_false] at kb
  exact ⟨(pb, _), ⟨by simp only; omega, by simp only; omega, xb, by unfold I64; omega, rfl⟩, rfl, rfl⟩
 | false =>
  simp (maxSteps := 1000000) (disch := omega) only [go_sem]
  obtain ⟨⟨pb, rb⟩, ⟨hab, hbb, xb, kb, nb, rfl⟩, hfb⟩ := (range_det lo hi h1 (by omega) (by omega)) L pa hL hl (by omega) (by omega)
  simp only at hab hbb hfb
  refine exX hfb rfl rfl ?_
  unfold strm
  simp (maxSteps := 1000000) (disch := omega) only [go_sem]
  exact ⟨(pb, _), ⟨by simp only; omega, by simp only; omega, xb, by unfold I64; omega, rfl⟩, rfl, rfl⟩
end Go.Proofs.YtdhkejcldipbmaaGreatDoor
namespace Go.Proofs.YtdhkejcldipbmaaGreatDoor
open Go Go.Ai
set_option linter.unusedSimpArgs false
set_option linter.unusedVariables false
set_option maxHeartbeats 4000000
theorem some_det (fr : Bool) (l : List ByteArray) (h1 : 0 < l.length) (h2 : l.length ≤ 9223372036854775807) : GenD Tryz.prog 5 [strs fr l] 1 (fun r => ∃ x ∈ l, r = sv x) := by
 refine genD_of (fun L p R' h => fc_some_ (xt := some (strm L p)) (args := [strs fr l]) (R := R') (by simp +arith) h) ?_
 intro L p hL hl h0 hp
 unfold C_some_ strm
 simp (maxSteps := 1000000) (disch := omega) only [go_sem]
 obtain ⟨⟨pa, ra⟩, ⟨haa, hba, xa, ka, na, rfl⟩, hfa⟩ := (next_det l.length (by omega) (by omega)) L p hL hl (by omega) (by omega)
 simp only at haa hba hfa
 refine exX hfa rfl rfl ?_
 have em := getD_str l xa ka na
 unfold strm
 simp (maxSteps := 1000000) (disch := omega) only [go_sem]
 exact ⟨(pa, _), ⟨by omega, by simp; omega, _, getD_memB _ _ (by omega), rfl⟩, rfl, rfl⟩
end Go.Proofs.YtdhkejcldipbmaaGreatDoor

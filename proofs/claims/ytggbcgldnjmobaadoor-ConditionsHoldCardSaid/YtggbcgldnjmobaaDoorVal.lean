
/-
  The value of a series at a moment: the program's way (binary search) and the reference's (a walk over all samples) come to one answer.
-/
import Derived.Test.YtggbcgldnjmobaaDoorChk
namespace Go.Proofs.YtggbcgldnjmobaaDoor
open Go Go.Ai
set_option linter.unusedSimpArgs false
set_option linter.unusedVariables false
set_option maxHeartbeats 4000000


theorem tu2_congr {a b c d : Val} (h1 : a = c) (h2 : b = d) : Val.tu [a, b] = .tu [c, d] := by rw [h1, h2]
theorem tu3_congr {a b c d e f : Val} (h1 : a = d) (h2 : b = e) (h3 : c = f) : Val.tu [a, b, c] = .tu [d, e, f] := by rw [h1, h2, h3]
def gcdSt (x : Int × Int) : AS := ⟨tabV [(0, iv x.1), (1, iv x.2)], tabO [], tabO []⟩
/-- A fraction's lowest terms. -/
def lowG (n d : Int) : Int := Nat.gcd (max n (0 - n)).toNat d.toNat
theorem lowG_pos (n d : Int) (hd : 1 ≤ d) : 1 ≤ lowG n d := by
  unfold lowG
  have : 0 < Nat.gcd (max n (0 - n)).toNat d.toNat := Nat.gcd_pos_of_pos_right _ (by omega)
  omega
theorem tdiv_bd {n g B : Int} (hg : 1 ≤ g) (h1 : -B ≤ n) (h2 : n ≤ B) : -B ≤ n.tdiv g ∧ n.tdiv g ≤ B := by
  by_cases h : 0 ≤ n
  · have h3 : 0 ≤ n.tdiv g := Int.tdiv_nonneg h (by omega)
    have h4 : n.tdiv g ≤ n := Int.tdiv_le_self _ h
    omega
  · have h3 : 0 ≤ (-n).tdiv g := Int.tdiv_nonneg (by omega) (by omega)
    have h4 : (-n).tdiv g ≤ -n := Int.tdiv_le_self _ (by omega)
    rw [Int.neg_tdiv] at h3 h4
    omega
def lowN (n d : Int) : Int := n.tdiv (lowG n d)
def lowD (n d : Int) : Int := d.tdiv (lowG n d)
theorem mul_bd {a b A B : Int} (ha : -A ≤ a ∧ a ≤ A) (hb : -B ≤ b ∧ b ≤ B) : -(A * B) ≤ a * b ∧ a * b ≤ A * B := by
  have h : (a * b).natAbs ≤ A.natAbs * B.natAbs := by
    rw [Int.natAbs_mul]; exact Nat.mul_le_mul (by omega) (by omega)
  have h2 : ((A.natAbs * B.natAbs : Nat) : Int) = A * B := by
    rw [Int.natCast_mul]
    rw [Int.natAbs_of_nonneg (by omega), Int.natAbs_of_nonneg (by omega)]
  omega
/-- The numerator of the value on the line between two samples. -/
def lineN (p n : Smp) (at_ : Int) : Int := p.v * (n.a - p.a) + (n.v - p.v) * (at_ - p.a)
def okSmp (x : Smp) : Prop := 0 ≤ x.a ∧ x.a ≤ 345686399999 ∧ -1000000 ≤ x.v ∧ x.v ≤ 1000000 ∧ 0 ≤ x.q ∧ x.q ≤ 2
theorem okSmp_of {x : Smp} (h : smpFault x = 0) : okSmp x ∧ (x.q = 2 → x.v = 0) := by
  unfold smpFault at h; unfold okSmp
  (repeat' split at h) <;> (first | omega | (refine ⟨by omega, fun h' => by simp_all⟩))
theorem lineN_bd {p n : Smp} {at_ : Int} (hp : okSmp p) (hn : okSmp n) (ha : 0 ≤ at_ ∧ at_ ≤ 345686400000) :
    (-1000000000000000000 ≤ p.v * (n.a - p.a) ∧ p.v * (n.a - p.a) ≤ 1000000000000000000) ∧ (-1000000000000000000 ≤ (n.v - p.v) * (at_ - p.a) ∧ (n.v - p.v) * (at_ - p.a) ≤ 1000000000000000000) := by
  obtain ⟨h1, h2, h3, h4, h5, h6⟩ := hp
  obtain ⟨g1, g2, g3, g4, g5, g6⟩ := hn
  have e1 := mul_bd (a := p.v) (b := n.a - p.a) (A := 1000000) (B := 345686400000) ⟨by omega, by omega⟩ ⟨by omega, by omega⟩
  have e2 := mul_bd (a := n.v - p.v) (b := at_ - p.a) (A := 2000000) (B := 345686400000) ⟨by omega, by omega⟩ ⟨by omega, by omega⟩
  omega
/-- The number of the last sample at or before a moment, or -1. -/
def holdGo (at_ : Int) : List Smp → Int → Int → Int
  | [], _, k => k
  | x :: t, i, k => holdGo at_ t (i + 1) (if x.a ≤ at_ then i else k)
def hold (l : List Smp) (at_ : Int) : Int := holdGo at_ l 0 (-1)
theorem drop_cons {α : Type} [Inhabited α] (l : List α) (i : Nat) (h : i < l.length) : l.drop i = l.getD i default :: l.drop (i + 1) := by
  rw [List.drop_eq_getElem_cons h]; simp [List.getD_eq_getElem?_getD, h]
def holdsSt (l : List Smp) (at_ : Int) (x : Int × Int) : AS := ⟨tabV [(1, iv at_), (5, iv x.2), (8, smps false l), (9, iv l.length), (10, iv x.1)], tabO [], tabO []⟩
/-- A series that nothing is wrong with. -/
structure Good (l : List Smp) : Prop where
  len : l.length ≤ 5000
  ok : ∀ i, i < l.length → okSmp (l.getD i default)
  bad : ∀ i, i < l.length → (l.getD i default).q = 2 → (l.getD i default).v = 0
  up : ∀ i j, i < j → j < l.length → (l.getD i default).a < (l.getD j default).a
theorem good_of {l : List Smp} (h : serFault l = 0) : Good l := by
  obtain ⟨h1, h2⟩ := serFault_ok h
  have h3 : ∀ i, i ≤ l.length → serGo (prv l i) (l.drop i) = 0 := by
    intro i
    induction i with
    | zero => intro _; simpa [prv] using h2
    | succ i ih =>
      intro hi
      have := ih (by omega)
      rw [serGo_step l i (by omega)] at this
      split at this
      · contradiction
      · split at this
        · omega
        · exact this
  have h4 : ∀ i, i < l.length → smpFault (l.getD i default) = 0 ∧ (0 < i → (l.getD (i - 1) default).a < (l.getD i default).a) := by
    intro i hi
    have := h3 i (by omega)
    rw [serGo_step l i hi] at this
    split at this
    · contradiction
    · rename_i h5
      split at this
      · omega
      · rename_i h6
        exact ⟨by omega, fun h7 => by
          have := fun h8 => h6 ⟨h7, h8⟩
          omega⟩
  refine ⟨h1, fun i hi => (okSmp_of (h4 i hi).1).1, fun i hi => (okSmp_of (h4 i hi).1).2, fun i j hij => ?_⟩
  induction j with
  | zero => omega
  | succ j ih =>
    intro hj
    have h5 := (h4 (j + 1) hj).2 (by omega)
    by_cases e : i = j
    · subst e; exact h5
    · have h6 := ih (by omega) (by omega)
      simp only [Nat.add_sub_cancel] at h5
      omega
theorem Good.le {l : List Smp} (h : Good l) (i j : Nat) (hij : i ≤ j) (hj : j < l.length) : (l.getD i default).a ≤ (l.getD j default).a := by
  by_cases e : i = j
  · subst e; omega
  · have := h.up i j (by omega) hj; omega
theorem holdGo_spec (at_ : Int) : ∀ (l : List Smp) (i k : Int), (∀ x ∈ l, at_ < x.a) → holdGo at_ l i k = k
  | [], _, _, _ => rfl
  | x :: t, i, k, h => by
    have h1 := h x (by simp)
    rw [holdGo, if_neg (by omega)]
    exact holdGo_spec at_ t _ _ (fun y hy => h y (by simp [hy]))
theorem holdGo_last (at_ : Int) : ∀ (l : List Smp) (i k : Int) (n : Nat), n < l.length → (l.getD n default).a ≤ at_ → (∀ m, n < m → m < l.length → at_ < (l.getD m default).a) → holdGo at_ l i k = i + n
  | [], _, _, n, h, _, _ => by simp at h
  | x :: t, i, k, n, h, h1, h2 => by
    rw [holdGo]
    cases n with
    | zero =>
      rw [if_pos (by simpa using h1), holdGo_spec at_ t _ _ (fun y hy => ?_)]
      · simp
      · obtain ⟨m, hm, rfl⟩ := List.getElem_of_mem hy
        have := h2 (m + 1) (by omega) (by simp; omega)
        simpa [List.getD_eq_getElem?_getD, hm] using this
    | succ n =>
      rw [holdGo_last at_ t _ _ n (by simpa using h) (by simpa using h1) (fun m hm hm2 => by simpa using h2 (m + 1) (by omega) (by simp; omega))]
      omega
/-- The last sample's number, out of how many lie at or before the moment. -/
theorem hold_eq {l : List Smp} {at_ k : Int} (h0 : -1 ≤ k) (hk : k < l.length) (h1 : ∀ j : Nat, j ≤ k → j < l.length → (l.getD j default).a ≤ at_) (h2 : ∀ j : Nat, k < j → j < l.length → at_ < (l.getD j default).a) : hold l at_ = k := by
  unfold hold
  by_cases h : k = -1
  · subst h
    refine holdGo_spec at_ l 0 (-1) (fun x hx => ?_)
    obtain ⟨m, hm, rfl⟩ := List.getElem_of_mem hx
    have := h2 m (by omega) hm
    simpa [List.getD_eq_getElem?_getD, hm] using this
  · rw [holdGo_last at_ l 0 (-1) k.toNat (by omega) (h1 _ (by omega) (by omega)) (fun m hm hm2 => h2 m (by omega) hm2)]
    omega
/-- Where the first sample at or behind a moment stands. -/
def pos (l : List Smp) (at_ : Int) : Int := hold l (at_ - 1) + 1
theorem pos_eq {l : List Smp} {at_ k : Int} (h0 : 0 ≤ k) (hk : k ≤ l.length) (h1 : ∀ j : Nat, j < k → (l.getD j default).a < at_) (h2 : ∀ j : Nat, k ≤ j → j < l.length → at_ ≤ (l.getD j default).a) : k = pos l at_ := by
  have := hold_eq (l := l) (at_ := at_ - 1) (k := k - 1) (by omega) (by omega) (fun j hj hj2 => by have := h1 j (by omega); omega) (fun j hj hj2 => by have := h2 j (by omega) hj2; omega)
  unfold pos; omega
theorem hold_spec (l : List Smp) (at_ : Int) (hg : ∀ i j, i ≤ j → j < l.length → (l.getD i default).a ≤ (l.getD j default).a) : -1 ≤ hold l at_ ∧ hold l at_ < l.length ∧ (∀ j : Nat, j ≤ hold l at_ → j < l.length → (l.getD j default).a ≤ at_) ∧ (∀ j : Nat, hold l at_ < j → j < l.length → at_ < (l.getD j default).a) := by
  have key : ∀ n : Nat, n ≤ l.length → ∃ k : Int, -1 ≤ k ∧ k < n ∧ (∀ j : Nat, j ≤ k → j < n → (l.getD j default).a ≤ at_) ∧ (∀ j : Nat, k < j → j < n → at_ < (l.getD j default).a) := by
    intro n
    induction n with
    | zero => intro _; exact ⟨-1, by omega, by omega, fun j _ hj => by omega, fun j _ hj => by omega⟩
    | succ n ih =>
      intro hn
      obtain ⟨k, h1, h2, h3, h4⟩ := ih (by omega)
      by_cases hc : (l.getD n default).a ≤ at_
      · exact ⟨n, by omega, by omega, fun j hj hj2 => Int.le_trans (hg j n (by omega) (by omega)) hc, fun j hj hj2 => by omega⟩
      · refine ⟨k, h1, by omega, fun j hj hj2 => h3 j hj (by omega), fun j hj hj2 => ?_⟩
        by_cases e : j = n
        · subst e; omega
        · exact h4 j hj (by omega)
  obtain ⟨k, h1, h2, h3, h4⟩ := key l.length (Nat.le_refl _)
  have := hold_eq h1 h2 h3 h4
  rw [this]
  exact ⟨h1, h2, h3, h4⟩
theorem pos_bd {l : List Smp} (hg : Good l) (at_ : Int) : 0 ≤ pos l at_ ∧ pos l at_ ≤ l.length := by
  obtain ⟨g1, g2, g3, g4⟩ := hold_spec l (at_ - 1) (fun i j h h' => hg.le i j h h')
  unfold pos; omega
theorem hold_pos {l : List Smp} (hg : Good l) (at_ : Int) : hold l at_ = if pos l at_ < l.length ∧ (l.getD (pos l at_).toNat default).a = at_ then pos l at_ else pos l at_ - 1 := by
  obtain ⟨h1, h2, h3, h4⟩ := hold_spec l at_ (fun i j h h' => hg.le i j h h')
  obtain ⟨g1, g2, g3, g4⟩ := hold_spec l (at_ - 1) (fun i j h h' => hg.le i j h h')
  have hp := pos_bd hg at_
  refine hold_eq (by unfold pos; split <;> omega) (by unfold pos; split <;> omega) (fun j hj hj2 => ?_) (fun j hj hj2 => ?_)
  · split at hj
    · rename_i h5
      have := hg.le j (pos l at_).toNat (by omega) (by omega); omega
    · unfold pos at hj; have := g3 j (by omega) hj2; omega
  · split at hj
    · rename_i h5
      have := hg.up (pos l at_).toNat j (by omega) hj2; omega
    · rename_i h5
      unfold pos at hj h5
      have := g4 j (by omega) hj2
      by_cases e : (j : Int) = hold l (at_ - 1) + 1
      · have e2 : (hold l (at_ - 1) + 1).toNat = j := by omega
        rw [e2] at h5; omega
      · have := hg.up (hold l (at_ - 1) + 1).toNat j (by omega) hj2
        have := g4 (hold l (at_ - 1) + 1).toNat (by omega) (by omega)
        omega
/-- A value at a moment: the moment, the fraction, the quality. -/
structure Pt where
  a : Int
  n : Int
  d : Int
  q : Int
  deriving Inhabited
def ptC (x : Pt) : List Cel := [.g (.int .i64 x.a), .g (.int .i64 x.n), .g (.int .i64 x.d), .g (.int .i64 x.q)]
theorem ptC_eq (x : Pt) : ptC x = [.g (.int .i64 x.a), .g (.int .i64 x.n), .g (.int .i64 x.d), .g (.int .i64 x.q)] := (rfl)
theorem frE_pt (l : List Pt) : frE (l.map ptC) = true := frE_map (fun _ => rfl) l
theorem datE_pt (l : List Pt) : datE (l.map ptC) = l.map ptC := datE_map (fun _ => rfl) l
theorem tofE_pt (l : List Pt) : tofE (l.map ptC) = l.map ptC := tofE_map (fun _ => rfl) l
attribute [go_sem] ptC_eq frE_pt datE_pt tofE_pt
abbrev ptV (x : Pt) : Val := .ag (ptC x)
def ptZ : Pt := ⟨0, 0, 0, 0⟩
theorem ptZ_a : ptZ.a = 0 := (rfl)
theorem ptZ_n : ptZ.n = 0 := (rfl)
theorem ptZ_d : ptZ.d = 0 := (rfl)
theorem ptZ_q : ptZ.q = 0 := (rfl)
attribute [go_sem] ptZ_a ptZ_n ptZ_d ptZ_q
def valSp (l : List Smp) (st : Bool) (at_ : Int) : Pt × Bool :=
  let k := hold l at_
  let p := l.getD k.toNat default
  let n := l.getD (k + 1).toNat default
  if k < 0 then (ptZ, false)
  else if p.q = 2 ∨ st = true ∨ p.a = at_ ∨ k + 1 = l.length ∨ n.q = 2 then (⟨at_, p.v, 1, p.q⟩, true)
  else (⟨at_, lowN (lineN p n at_) (n.a - p.a), lowD (lineN p n at_) (n.a - p.a), max p.q n.q⟩, true)
end Go.Proofs.YtggbcgldnjmobaaDoor

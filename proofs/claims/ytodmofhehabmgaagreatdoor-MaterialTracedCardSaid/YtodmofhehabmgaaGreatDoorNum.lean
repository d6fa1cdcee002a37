/-
 Decimal numbers as they are written and read; strings that are cut at a byte. Plain Lean.
-/
import Derived.Lib.Atoi
import Derived.Lib.ItoaNum
import Derived.Lib.ItoaMem
import Derived.Lib.SplitLaws
import Derived.Lib.CutLaws
import Derived.Lib.IndexLaws
import Derived.Lib.Strings
namespace Go.Proofs.YtodmofhehabmgaaGreatDoor
open Go Go.Lib
set_option linter.unusedSimpArgs false
set_option linter.unusedVariables false
set_option maxHeartbeats 4000000
theorem decFrom_app : ∀ (l m : List UInt8) (acc : Nat), decFrom acc (l ++ m) = (decFrom acc l).bind fun a => decFrom a m
 | [], m, acc => rfl
 | b :: l, m, acc => by
  rw [List.cons_append, decFrom, decFrom]
  cases digitVal b with
  | none => rfl
  | some d => exact decFrom_app l m _
theorem u8_dig {d : Nat} (h : d < 10) : (UInt8.ofNat (48 + d)).toNat = 48 + d := by
 rw [UInt8.toNat_ofNat']; omega
theorem dig_dec {d : Nat} (h : d < 10) : digitVal (UInt8.ofNat (48 + d)) = some d := by
 unfold digitVal
 rw [u8_dig h, if_pos (by omega)]; congr 1; omega
theorem dig_of {b : UInt8} {d : Nat} (h : digitVal b = some d) : d < 10 ∧ UInt8.ofNat (48 + d) = b := by
 unfold digitVal at h
 split at h
 ·rename_i hc
  injection h with h
  refine ⟨by omega, UInt8.toNat_inj.1 ?_⟩
  rw [u8_dig (by omega)]; omega
 ·cases h
theorem dd_small {u : Nat} (h : u < 10) : decDigits u = [UInt8.ofNat (48 + u)] := by rw [decDigits, dif_pos h]
theorem dd_big {u : Nat} (h : ¬u < 10) : decDigits u = decDigits (u / 10) ++ [UInt8.ofNat (48 + u % 10)] := by rw [decDigits, dif_neg h]
theorem decFrom_digits (u : Nat) : decFrom 0 (decDigits u) = some u := by
 induction u using Nat.strongRecOn with
 | _ u ih =>
  by_cases h : u < 10
  ·rw [dd_small h, decFrom, dig_dec h]; simp [decFrom]
  ·rw [dd_big h, decFrom_app, ih (u / 10) (by omega)]
   simp only [Option.bind_some]
   rw [decFrom, dig_dec (Nat.mod_lt _ (by omega))]
   simp only [decFrom]
   congr 1; omega
theorem decDigits_ne (u : Nat) : decDigits u ≠ [] := by
 have := decDigits_length u
 have := nDigits_pos u
 intro h
 have e : (decDigits u).length = 0 := by rw [h]; rfl
 omega
def isDig (b : UInt8) : Bool := decide (48 ≤ b.toNat ∧ b.toNat ≤ 57)
theorem decDigits_dig (u : Nat) : (decDigits u).all isDig = true := by
 induction u using Nat.strongRecOn with
 | _ u ih =>
  by_cases h : u < 10
  ·rw [dd_small h]; simp [isDig, u8_dig h]; omega
  ·rw [dd_big h, List.all_append, ih (u / 10) (by omega)]
   simp [isDig, u8_dig (Nat.mod_lt u (show 0 < 10 by omega))]; omega
theorem decDigits_head (u : Nat) (h : 0 < u) : (decDigits u).head? ≠ some 48 := by
 induction u using Nat.strongRecOn with
 | _ u ih =>
  by_cases h10 : u < 10
  ·rw [dd_small h10]
   simp only [List.head?_cons, ne_eq, Option.some.injEq]
   intro he
   have := congrArg UInt8.toNat he
   rw [u8_dig h10] at this
   simp at this; omega
  ·have h1 := ih (u / 10) (by omega) (by omega)
   rw [dd_big h10]
   cases hd : decDigits (u / 10) with
   | nil => exact absurd hd (decDigits_ne _)
   | cons b r => rw [hd] at h1; simpa using h1
theorem decFrom_all : ∀ (l : List UInt8) (acc : Nat), l.all isDig = true → ∃ n, decFrom acc l = some n
 | [], acc, _ => ⟨acc, rfl⟩
 | b :: l, acc, h => by
  rw [List.all_cons, Bool.and_eq_true] at h
  have hb : digitVal b = some (b.toNat - 48) := by
   unfold digitVal; rw [if_pos (of_decide_eq_true h.1)]
  rw [decFrom, hb]
  exact decFrom_all l _ h.2
/-- Digits without a 0 ahead are the numeral of their number. -/
theorem digits_of : ∀ (k : Nat) (l : List UInt8) (n : Nat), l.length = k → decFrom 0 l = some n → l ≠ [] → (l.head? = some 48 → l.length = 1) → decDigits n = l
 | 0, l, n, hk, _, hne, _ => absurd (List.length_eq_zero_iff.1 hk) hne
 | k + 1, l, n, hk, h, hne, hz => by
  obtain ⟨l', b, rfl⟩ : ∃ l' b, l = l' ++ [b] := ⟨l.dropLast, l.getLast hne, (List.dropLast_concat_getLast hne).symm⟩
  rw [decFrom_app] at h
  obtain ⟨m, hm, h2⟩ := Option.bind_eq_some_iff.1 h
  rw [decFrom] at h2
  cases hd : digitVal b with
  | none => rw [hd] at h2; cases h2
  | some d =>
   rw [hd] at h2
   simp only [decFrom, Option.some.injEq] at h2
   obtain ⟨hd1, hd2⟩ := dig_of hd
   by_cases hl : l' = []
   ·subst hl
    simp only [decFrom, Option.some.injEq] at hm
    subst hm
    rw [← h2, show 0 * 10 + d = d by omega, dd_small hd1, hd2]; rfl
   ·have hh : l'.head? ≠ some 48 := fun hh => by
     have := hz (by cases l' with | nil => exact absurd rfl hl | cons a r => simpa using hh)
     rw [List.length_append, List.length_singleton] at this
     exact hl (List.length_eq_zero_iff.1 (by omega))
    have ih := digits_of k l' m (by simpa using hk) hm hl (fun h => absurd h hh)
    have hm0 : m ≠ 0 := fun h0 => by
     subst h0
     rw [dd_small (by omega)] at ih
     rw [← ih] at hh
     exact hh rfl
    rw [← h2, dd_big (by omega), show (m * 10 + d) / 10 = m by omega, ih, show (m * 10 + d) % 10 = d by omega, hd2]
/-- What is behind a minus. -/
def numD (s : List UInt8) : List UInt8 := if s.head? = some 45 then s.tail else s
/-- A number of at most 15 digits, as it is written. -/
def numOk (s : List UInt8) : Bool := decide (numD s ≠ [] ∧ (numD s).length ≤ 15 ∧ ¬((numD s).head? = some 48 ∧ (1 < (numD s).length ∨ (numD s).length < s.length))) && (numD s).all isDig
def big15 : Int := 1000000000000000
theorem dd_lt {n : Nat} (h : (decDigits n).length ≤ 15) : n < 1000000000000000 := by
 rw [decDigits_length] at h
 have h1 := lt_pow_nDigits n
 have h2 : 10 ^ nDigits n ≤ 10 ^ 15 := Nat.pow_le_pow_right (by omega) h
 have h3 : (10 : Nat) ^ 15 = 1000000000000000 := by decide
 omega
theorem dd_len {n : Nat} (h : n < 1000000000000000) : (decDigits n).length ≤ 15 := by
 rw [decDigits_length]
 have h1 : ∀ k u, u < 10 ^ (k + 1) → nDigits u ≤ k + 1 := fun k => by
  induction k with
  | zero => intro u hu; rw [nDigits_small (by simpa using hu)]; omega
  | succ k ih =>
   intro u hu
   by_cases h10 : u < 10
   ·rw [nDigits_small h10]; omega
   ·rw [nDigits_big h10]
    have := ih (u / 10) (by rw [Nat.pow_succ] at hu; omega)
    omega
 exact h1 14 n h
/-- What reads as a number is how it is written. -/
theorem num_atoi {s : List UInt8} (h : numOk s = true) : ∃ n, atoi s = some n ∧ itoa n = s ∧ -big15 < n ∧ n < big15 := by
 unfold numOk at h
 rw [Bool.and_eq_true, decide_eq_true_eq] at h
 obtain ⟨⟨h1, h2, h3⟩, h4⟩ := h
 obtain ⟨n, hn⟩ := decFrom_all (numD s) 0 h4
 have hd := digits_of _ (numD s) n rfl hn h1 (fun hh => Classical.byContradiction fun hc => h3 ⟨hh, .inl (by have := List.length_pos_iff.2 h1; omega)⟩)
 have hlt := dd_lt (n := n) (by rw [hd]; exact h2)
 have hdn : decNat (numD s) = some n := by
  unfold decNat
  rw [if_neg (by simpa using h1)]; exact hn
 cases s with
 | nil => simp [numD] at h1
 | cons b r =>
  by_cases hb : b = 45
  ·subst hb
   have e : numD (45 :: r) = r := rfl
   rw [e] at h1 h2 h3 h4 hn hd hdn
   have hn0 : n ≠ 0 := fun h0 => by
    subst h0
    rw [dd_small (by omega)] at hd
    exact h3 ⟨by rw [← hd]; rfl, .inr (by simp)⟩
   refine ⟨-(n : Int), by rw [atoi, if_pos (by rfl), hdn]; rfl, ?_, by unfold big15; omega, by unfold big15; omega⟩
   rw [itoa_neg n (by omega), hd]
  ·have e : numD (b :: r) = b :: r := if_neg (by simpa using hb)
   rw [e] at h1 h2 h3 h4 hn hd hdn
   have h43 : ¬b = 43 := fun h0 => by
    subst h0
    rw [List.all_cons, Bool.and_eq_true] at h4
    exact absurd h4.1 (by decide)
   refine ⟨n, by rw [atoi, if_neg (by simpa using hb), if_neg (by simpa using h43), hdn]; rfl, ?_, by unfold big15; omega, by unfold big15; omega⟩
   rw [itoa_nonneg, hd]
/-- What is written reads as the number. -/
theorem itoa_num {n : Int} (h1 : -big15 < n) (h2 : n < big15) : numOk (itoa n) = true ∧ atoi (itoa n) = some n := by
 unfold big15 at h1 h2
 have hdn : ∀ u : Nat, decNat (decDigits u) = some u := fun u => by
  unfold decNat
  rw [if_neg (by simpa using decDigits_ne u)]; exact decFrom_digits u
 have h1d : ∀ u : Nat, 1 < (decDigits u).length → 0 < u := fun u h => by
  rcases Nat.eq_zero_or_pos u with rfl | h0
  ·rw [dd_small (by omega)] at h; simp at h
  ·exact h0
 by_cases hn : n < 0
 ·obtain ⟨u, rfl⟩ : ∃ u : Nat, n = -(u : Int) := ⟨n.natAbs, by omega⟩
  rw [itoa_neg u (by omega)]
  have e : numD (45 :: decDigits u) = decDigits u := rfl
  refine ⟨?_, by rw [atoi, if_pos (by rfl), hdn]; rfl⟩
  unfold numOk
  rw [e, decDigits_dig, Bool.and_true, decide_eq_true_eq]
  exact ⟨decDigits_ne u, dd_len (by omega), fun h => decDigits_head u (by omega) h.1⟩
 ·obtain ⟨u, rfl⟩ : ∃ u : Nat, n = u := ⟨n.toNat, by omega⟩
  rw [itoa_nonneg]
  have hall := decDigits_dig u
  cases hd : decDigits u with
  | nil => exact absurd hd (decDigits_ne u)
  | cons b r =>
   have hb : isDig b = true := by rw [hd, List.all_cons, Bool.and_eq_true] at hall; exact hall.1
   have h45 : ¬b = 45 := fun h0 => by subst h0; exact absurd hb (by decide)
   have h43 : ¬b = 43 := fun h0 => by subst h0; exact absurd hb (by decide)
   have e : numD (b :: r) = b :: r := if_neg (by simpa using h45)
   refine ⟨?_, by rw [atoi, if_neg (by simpa using h45), if_neg (by simpa using h43), ← hd, hdn]; rfl⟩
   unfold numOk
   rw [e, ← hd, hall, Bool.and_true, decide_eq_true_eq]
   exact ⟨decDigits_ne u, dd_len (by omega), fun h => h.2.elim (fun h5 => decDigits_head u (h1d u h5) h.1) (fun h5 => by omega)⟩
/-! ### pieces between bytes -/
def spl (c : UInt8) : List UInt8 → List (List UInt8)
 | [] => [[]]
 | b :: l => if b = c then [] :: spl c l else match spl c l with
  | [] => [[b]]
  | x :: r => (b :: x) :: r
def jn (c : UInt8) : List (List UInt8) → List UInt8
 | [] => []
 | [x] => x
 | x :: y :: r => x ++ c :: jn c (y :: r)
theorem spl_ne (c : UInt8) (l : List UInt8) : spl c l ≠ [] := by
 cases l with
 | nil => simp [spl]
 | cons b l =>
  rw [spl]
  split
  ·simp
  ·split <;> simp
theorem spl_app (c : UInt8) : ∀ (x y : List UInt8), c ∉ x → spl c (x ++ c :: y) = x :: spl c y
 | [], y, _ => by rw [List.nil_append, spl, if_pos rfl]
 | b :: x, y, h => by
  simp only [List.mem_cons, not_or] at h
  rw [List.cons_append, spl, if_neg (fun e => h.1 e.symm), spl_app c x y h.2]
theorem spl_one (c : UInt8) : ∀ (x : List UInt8), c ∉ x → spl c x = [x]
 | [], _ => rfl
 | b :: x, h => by
  simp only [List.mem_cons, not_or] at h
  rw [spl, if_neg (fun e => h.1 e.symm), spl_one c x h.2]
def bS (l : List UInt8) : ByteArray := ⟨l.toArray⟩
theorem bS_list (l : List UInt8) : (bS l).data.toList = l := rfl
theorem bS_eq (b : ByteArray) : bS b.data.toList = b := rfl
theorem bS_size (l : List UInt8) : (bS l).size = l.length := by simp [bS, ByteArray.size]
theorem idx_split {c : UInt8} : ∀ {l : List UInt8} {i : Nat}, indexByte l c = i → i < l.length ∧ c ∉ l.take i ∧ l = l.take i ++ c :: l.drop (i + 1)
 | [], i, h => by simp [indexByte] at h
 | b :: l, i, h => by
  unfold indexByte at h
  split at h
  ·rename_i hb
   have hb := beq_iff_eq.1 hb
   have : i = 0 := by omega
   subst this; subst hb
   exact ⟨by simp, by simp, by simp⟩
  ·rename_i hb
   split at h
   ·omega
   ·have hge := indexByte_ge l c
    obtain ⟨j, hj⟩ : ∃ j : Nat, indexByte l c = j := ⟨(indexByte l c).toNat, by rename_i h1; have : ¬indexByte l c = -1 := fun e => h1 (beq_iff_eq.2 e); omega⟩
    obtain ⟨h1, h2, h3⟩ := idx_split hj
    have : i = j + 1 := by omega
    subst this
    refine ⟨by simp; omega, ?_, ?_⟩
    ·rw [List.take_succ_cons]
     simp only [List.mem_cons, not_or]
     exact ⟨fun e => hb (by rw [e]; simp), h2⟩
    ·rw [List.take_succ_cons, List.drop_succ_cons, List.cons_append, ← h3]
theorem splitB_spl (c : UInt8) : ∀ (k : Nat) (s : ByteArray), countB s ⟨#[c]⟩ = k → splitB ⟨#[c]⟩ 0 k s = (spl c s.data.toList).map bS := by
 have hi : ∀ s : ByteArray, indexB s ⟨#[c]⟩ = indexByte s.data.toList c := fun s => index_one _ _
 intro k
 induction k with
 | zero =>
  intro s h
  have h1 : indexByte s.data.toList c = -1 := by
   rcases indexB_cases s ⟨#[c]⟩ with h2 | ⟨i, h2, h3⟩
   ·rw [← hi]; exact h2
   ·have := countB_hit s ⟨#[c]⟩ i (Nat.le_refl 1) h2; omega
  have h2 : c ∉ s.data.toList := fun hm => by
   obtain ⟨j, hj⟩ := List.mem_iff_getElem?.1 hm
   exact indexByte_none h1 j hj
  rw [splitB_zero, spl_one c _ h2]; rfl
 | succ k ih =>
  intro s h
  rcases indexB_cases s ⟨#[c]⟩ with h2 | ⟨i, h2, h3⟩
  ·rw [countB_miss s _ h2] at h; omega
  ·have h4 := countB_hit s ⟨#[c]⟩ i (Nat.le_refl 1) h2
   obtain ⟨h5, h6, h7⟩ := idx_split (by rw [← hi]; exact h2)
   unfold splitB
   rw [if_neg (by rw [h2]; simp), h2]
   have e1 : (ByteArray.mk #[c]).size = 1 := rfl
   rw [e1] at h4
   have e2 : (s.extract (i + 1) s.size).data.toList = s.data.toList.drop (i + 1) := by
    rw [Lib.extract_data]; exact List.take_of_length_le (by rw [List.length_drop, Array.length_toList]; exact Nat.le_refl _)
   have e3 : (s.extract 0 i).data.toList = s.data.toList.take i := by rw [Lib.extract_data]; rfl
   have h8 := ih (s.extract (i + 1) s.size) (by omega)
   rw [e2] at h8
   have h9 : spl c s.data.toList = s.data.toList.take i :: spl c (s.data.toList.drop (i + 1)) := by
    conv => lhs; rw [h7]
    exact spl_app c _ _ h6
   rw [h9, List.map_cons, ← h8, ← e3]
   rfl
end Go.Proofs.YtodmofhehabmgaaGreatDoor

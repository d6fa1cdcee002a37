
/-
 How far kept samples are from all: apart, Error, and the comparison of fractions.
-/
import Derived.Test.YtiiblflmfadmbaaStp
import Derived.Laws.Bits64b
import Derived.Lib.Mul64
namespace Go.Proofs.Ytiiblflmfadmbaa
open Go Go.Ai
set_option linter.unusedSimpArgs false
set_option linter.unusedVariables false
set_option maxHeartbeats 4000000
abbrev uv (n : Int) : Val := .one (.g (.int .u64 n))
theorem maskN (a : Nat) (ha : a < 18446744073709551616) : bits .and .u64 (a : Int) 4294967295 = ((a % 4294967296 : Nat) : Int) := by
 have h := bits_and_u64_nat a 4294967295 ha (by omega)
 have e : a &&& 4294967295 = a % 4294967296 := Nat.and_two_pow_sub_one_eq_mod a 32
 rw [e] at h
 exact h
theorem shr32 (a : Nat) : (a : Int).fdiv (2 ^ (min (Int.toNat 32) 64)) = ((a / 4294967296 : Nat) : Int) := by
 have e : (2 : Int) ^ (min (Int.toNat 32) 64) = 4294967296 := by decide
 rw [e, Int.fdiv_eq_ediv_of_nonneg _ (by omega)]; omega
theorem mulN (a b : Nat) : (a : Int) * (b : Int) = ((a * b : Nat) : Int) := (Int.natCast_mul a b).symm
theorem addN (a b : Nat) : (a : Int) + (b : Int) = ((a + b : Nat) : Int) := (Int.natCast_add a b).symm
theorem wrapN (a : Nat) (ha : a < 18446744073709551616) : IntKind.u64.wrap (a : Int) = (a : Int) := by rw [IntKind.wrap_u64]; omega
theorem wrapM (a : Nat) : IntKind.u64.wrap (a : Int) = ((a % 18446744073709551616 : Nat) : Int) := by rw [IntKind.wrap_u64]; omega
/-- How two numbers compare. -/
def cmpI (x y : Int) : Int := if x < y then -1 else if x = y then 0 else 1
/-- By how much a sample differs from the reconstruction; false: there is none. -/
def apSp (k : List Smp) (s : Smp) : (Int × Int) × Bool := if (recSp k s.a).2 = false ∨ s.q = 2 then ((0, 0), false) else ((max (s.v * (recSp k s.a).1.2 - (recSp k s.a).1.1) (0 - (s.v * (recSp k s.a).1.2 - (recSp k s.a).1.1)), (recSp k s.a).1.2), true)
theorem apSp_bd {k : List Smp} (hg : Good k) {s : Smp} (hs : okSmp s) (h : (apSp k s).2 = true) : (0 ≤ (apSp k s).1.1 ∧ (apSp k s).1.1 ≤ 3000000000000000000) ∧ 1 ≤ (apSp k s).1.2 ∧ (apSp k s).1.2 ≤ 345686400000 := by
 unfold okSmp at hs
 have hb := recSp_bd hg (at_ := s.a) (by omega)
 unfold apSp at h ⊢
 by_cases c1 : (recSp k s.a).2 = false ∨ s.q = 2
 ·rw [if_pos c1] at h; cases h
 ·rw [if_neg c1] at h ⊢
  have h1 : (recSp k s.a).2 = true := by
   cases hh : (recSp k s.a).2 with
   | false => exact absurd (.inl hh) c1
   | true => rfl
  obtain ⟨h2, h3⟩ := hb h1
  have hm := mul_bd (a := s.v) (b := (recSp k s.a).1.2) (A := 1000000) (B := 345686400000) (by omega) (by omega)
  simp only
  omega
def erStep (k : List Smp) (x : (Int × Int) × Int) (i : Int) (s : Smp) : (Int × Int) × Int :=
 if (apSp k s).2 = true ∧ (x.2 < 0 ∨ x.1.1 * (apSp k s).1.2 < (apSp k s).1.1 * x.1.2) then ((apSp k s).1, i) else x
def erGo (k : List Smp) : Int → (Int × Int) × Int → List Smp → (Int × Int) × Int
 | _, x, [] => x
 | i, x, s :: r => erGo k (i + 1) (erStep k x i s) r
def errSp (l : List Smp) (kept : List Int) : (Int × Int) × Int × Int :=
 if kptF l kept ≠ 0 then ((0, 0), 0, kptF l kept) else if (erGo (kep l kept) 0 ((0, 0), -1) l).2 < 0 then ((0, 0), 0, 8) else
 ((lowN (erGo (kep l kept) 0 ((0, 0), -1) l).1.1 (erGo (kep l kept) 0 ((0, 0), -1) l).1.2, lowD (erGo (kep l kept) 0 ((0, 0), -1) l).1.1 (erGo (kep l kept) 0 ((0, 0), -1) l).1.2), (erGo (kep l kept) 0 ((0, 0), -1) l).2, 0)
def erSt (l k : List Smp) (i : Int) (x : (Int × Int) × Int) : AS := ⟨tabV [(4, .one (.bx 4 0)), (8, smps true k), (9, .one (.bx 9 0)), (10, iv x.2), (26, smps false l), (27, iv l.length), (28, iv i)], tabO [(4, [.g (.int .i64 0), .g (.int .i64 0)]), (9, frC x.1)], tabO []⟩
theorem cmpI_gt (x y : Int) : (0 < cmpI x y) ↔ y < x := by
 unfold cmpI; split
 ·omega
 ·split <;> omega
end Go.Proofs.Ytiiblflmfadmbaa

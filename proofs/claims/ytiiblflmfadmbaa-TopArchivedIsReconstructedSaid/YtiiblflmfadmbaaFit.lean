
/-
 Fits: which samples can be kept without those between them.
-/
import Derived.Test.YtiiblflmfadmbaaErr
import Derived.Test.YtiiblflmfadmbaaCrs
namespace Go.Proofs.Ytiiblflmfadmbaa
open Go Go.Ai
set_option linter.unusedSimpArgs false
set_option linter.unusedVariables false
set_option maxHeartbeats 4000000
theorem fit_bd {a b : Int} (ha : 0 ≤ a ∧ a ≤ 2000000) (hb : 0 ≤ b ∧ b ≤ 345686400000) : 0 ≤ a * b ∧ a * b ≤ 900000000000000000 := by
 have h1 := Int.mul_nonneg ha.1 hb.1
 have h2 := Int.mul_le_mul_of_nonneg_right ha.2 hb.1
 omega
/-- Two samples that are apart are a series. -/
theorem good_two {l : List Smp} (hg : Good l) {i k : Nat} (hik : i < k) (hk : k < l.length) : Good [l.getD i default, l.getD k default] := by
 refine ⟨by simp, fun j hj => ?_, fun j hj => ?_, fun a b hab hb => ?_⟩
 ·match j, hj with
  | 0, _ => exact hg.ok i (by omega)
  | 1, _ => exact hg.ok k hk
  | j + 2, hj => exact absurd hj (by simp only [List.length_cons, List.length_nil]; omega)
 ·match j, hj with
  | 0, _ => exact hg.bad i (by omega)
  | 1, _ => exact hg.bad k hk
  | j + 2, hj => exact absurd hj (by simp only [List.length_cons, List.length_nil]; omega)
 ·match a, b, hab, hb with
  | 0, 1, _, _ => exact hg.up i k hik hk
  | a, b + 2, _, hb => exact absurd hb (by simp only [List.length_cons, List.length_nil]; omega)
  | a + 1, 1, hab, _ => omega
  | a, 0, hab, _ => omega
/-- A sample has the quality of the first, and is near enough to the line. -/
def nrB (dv : Int) (a b s : Smp) : Bool := decide (s.q = a.q) && !((apSp [a, b] s).2 && decide ((apSp [a, b] s).1.1 > dv * (apSp [a, b] s).1.2))
def jnB (dv mg : Int) (l : List Smp) (i k : Int) : Bool :=
 decide (k = i + 1) || (decide ((l.getD k.toNat default).a - (l.getD i.toNat default).a ≤ mg) && ((l.take (k + 1).toNat).drop (i + 1).toNat).all (nrB dv (l.getD i.toNat default) (l.getD k.toNat default)))
def jnSt (dv mg : Int) (a b : Smp) (m : List Smp) (j : Int) : AS := ⟨tabV [(4, .one (.bx 4 0)), (9, .one (.bx 9 0)), (10, .one (.bx 10 0)), (40, smps false m), (41, iv m.length), (42, iv j)], tabO [(4, [.g (.int .i64 dv), .g (.int .i64 mg)]), (9, smpC a), (10, smpC b)], tabO []⟩
/-- Each is joined to the one ahead of it. -/
def chB (dv mg : Int) (l : List Smp) : Int → List Int → Bool
 | _, [] => true
 | a, b :: r => jnB dv mg l a b && chB dv mg l b r
def fitB (dv mg : Int) (l : List Smp) (kept : List Int) : Bool :=
 if l.length = 0 then true else if kept.length = 0 then false else if kept.getD 0 default ≠ 0 then false else if kept.getD ((kept.length : Int) - 1).toNat default ≠ l.length - 1 then false
 else chB dv mg l (kept.getD 0 default) (kept.drop 1)
def fitSp (dv mg : Int) (l : List Smp) (kept : List Int) : Bool × Int :=
 if excF dv mg ≠ 0 then (false, excF dv mg) else if kptF l kept ≠ 0 then (false, kptF l kept) else (fitB dv mg l kept, 0)
theorem kf_lt (n : Int) : ∀ (l : List Int) (p : Option Int), kfGo n p l = 0 → (∀ y, p = some y → ∀ k ∈ l.head?, y < k) ∧ ∀ j, j + 1 < l.length → l.getD j default < l.getD (j + 1) default
 | [], p, _ => ⟨fun y _ k hk => by simp at hk, fun j hj => by simp at hj⟩
 | x :: r, p, h => by
  rw [kfGo] at h
  split at h
  ·omega
  ·split at h
   ·omega
   ·rename_i h1 h2
    obtain ⟨i1, i2⟩ := kf_lt n r (some x) h
    refine ⟨fun y hy k hk => ?_, fun j hj => ?_⟩
    ·subst hy
     simp only [List.head?_cons, Option.mem_def, Option.some.injEq] at hk
     subst hk
     simp [leO] at h2
     omega
    ·cases j with
     | zero =>
      cases r with
      | nil => simp at hj
      | cons z r' => simpa using i1 x rfl z (by simp)
     | succ j => simpa using i2 j (by simp at hj; omega)
def fitSt (dv mg : Int) (l : List Smp) (kept : List Int) (i : Int) : AS := ⟨tabV [(1, smps false l), (2, ints false kept), (3, .one (.bx 3 0)), (9, iv kept.length), (10, iv i)], tabO [(3, [.g (.int .i64 dv), .g (.int .i64 mg)])], tabO []⟩
end Go.Proofs.Ytiiblflmfadmbaa

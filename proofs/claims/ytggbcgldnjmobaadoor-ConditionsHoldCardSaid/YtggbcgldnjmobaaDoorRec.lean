
/-
  Reconstruct: what lies between archived samples.
-/
import Derived.Test.YtggbcgldnjmobaaDoorVal
namespace Go.Proofs.YtggbcgldnjmobaaDoor
open Go Go.Ai
set_option linter.unusedSimpArgs false
set_option linter.unusedVariables false
set_option maxHeartbeats 4000000

def bsgSt (cl : FuncId) (l : List Smp) (at_ : Int) (x : Int × Int) : AS := ⟨tabV [(0, smps false l), (1, iv at_), (2, .one (.fn cl [])), (8, iv l.length), (9, iv x.1), (10, iv x.2)], tabO [], tabO []⟩
/-- The value at a moment, not in lowest terms; false: there is none. -/
def recSp (l : List Smp) (at_ : Int) : (Int × Int) × Bool :=
  if pos l at_ < l.length ∧ (l.getD (pos l at_).toNat default).a = at_ then (((l.getD (pos l at_).toNat default).v, 1), decide ((l.getD (pos l at_).toNat default).q ≠ 2))
  else if pos l at_ = 0 ∨ pos l at_ = l.length then ((0, 0), false)
  else ((lineN (l.getD (pos l at_ - 1).toNat default) (l.getD (pos l at_).toNat default) at_, (l.getD (pos l at_).toNat default).a - (l.getD (pos l at_ - 1).toNat default).a), decide ((l.getD (pos l at_ - 1).toNat default).q ≠ 2) && decide ((l.getD (pos l at_).toNat default).q ≠ 2))
def recoSp (l : List Smp) (at_ : Int) : (Int × Int) × Bool × Int :=
  if serFault l ≠ 0 then ((0, 0), false, serFault l) else if ¬(0 ≤ at_ ∧ at_ ≤ 345686399999) then ((0, 0), false, 1) else if (recSp l at_).2 = false then ((0, 0), false, 0) else ((lowN (recSp l at_).1.1 (recSp l at_).1.2, lowD (recSp l at_).1.1 (recSp l at_).1.2), true, 0)
theorem recSp_bd {l : List Smp} (hg : Good l) {at_ : Int} (ha : 0 ≤ at_ ∧ at_ ≤ 345686400000) (h : (recSp l at_).2 = true) : (-2000000000000000000 ≤ (recSp l at_).1.1 ∧ (recSp l at_).1.1 ≤ 2000000000000000000) ∧ 1 ≤ (recSp l at_).1.2 ∧ (recSp l at_).1.2 ≤ 345686400000 := by
  have hp := pos_bd hg at_
  unfold recSp at h ⊢
  by_cases h1 : pos l at_ < l.length ∧ (l.getD (pos l at_).toNat default).a = at_
  · have := hg.ok (pos l at_).toNat (by omega)
    unfold okSmp at this
    rw [if_pos h1]; simp only; omega
  · rw [if_neg h1] at h ⊢
    by_cases h2 : pos l at_ = 0 ∨ pos l at_ = l.length
    · rw [if_pos h2] at h; cases h
    · rw [if_neg h2] at h ⊢
      have hoa := hg.ok (pos l at_ - 1).toNat (by omega)
      have hob := hg.ok (pos l at_).toNat (by omega)
      have hup := hg.up (pos l at_ - 1).toNat (pos l at_).toNat (by omega) (by omega)
      have hb := lineN_bd hoa hob ha
      unfold okSmp at hoa hob
      simp only [lineN]; omega
end Go.Proofs.YtggbcgldnjmobaaDoor

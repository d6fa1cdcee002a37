
/-
  Frames: slices.DeleteFunc over windows, raw, Frames.
-/
import Derived.Test.YtggbcgldnjmobaaDoorDelA
import Derived.Test.YtggbcgldnjmobaaDoorRep
namespace Go.Proofs.YtggbcgldnjmobaaDoor
open Go Go.Ai
set_option linter.unusedSimpArgs false
set_option linter.unusedVariables false
set_option maxHeartbeats 4000000

def ixWSt (cl : FuncId) (cs : List Cel) (l : List (Int × Int)) (i : Int) : AS := ⟨tabV [(0, frsV false l), (1, .one (.fn cl [.ep cs])), (7, iv l.length), (8, iv i)], tabO [], tabO []⟩
abbrev winRow (l : List (Int × Int)) : Row := ⟨0, 46, 2, l.map frC⟩
def dlWSt (cl : FuncId) (ta tb tc td : Int) (j k : Int) (cur : List (Int × Int)) : AS := ⟨tabV [(0, .one (.ow 1000000 0)), (1, .one (.fn cl [.bx 1000001 0])), (5, iv j), (6, iv k), (1000001, .any)], tabO [(1000001, [.g (.int .i64 ta), .g (.int .i64 tb), .g (.int .i64 tc), .g (.int .i64 td)])], tabO [(1000000, winRow cur)]⟩
abbrev trgV (st sp jn ls : Int) : Val := .ag [.g (.int .i64 st), .g (.int .i64 sp), .g (.int .i64 jn), .g (.int .i64 ls)]
def trgF (st sp jn ls : Int) : Int := if (-1000000 ≤ st ∧ st ≤ 1000000) ∧ (-1000000 ≤ sp ∧ sp ≤ st) ∧ (0 ≤ jn ∧ jn ≤ 86400000) ∧ (0 ≤ ls ∧ ls ≤ 86400000) then 0 else 1
/-- The last window, with another end. -/
def lastW (out : List (Int × Int)) : Int × Int := out.getD ((out.length : Int) - 1).toNat default
def setTo (out : List (Int × Int)) (t : Int) : List (Int × Int) := out.set ((out.length : Int) - 1).toNat ((out.getD ((out.length : Int) - 1).toNat default).1, t)
theorem setTo_len (out : List (Int × Int)) (t : Int) : (setTo out t).length = out.length := by unfold setTo; rw [List.length_set]
theorem setTo_map (out : List (Int × Int)) (t : Int) : (setTo out t).map frC = (out.map frC).set ((out.length : Int) - 1).toNat [.g (.int .i64 (out.getD ((out.length : Int) - 1).toNat default).1), .g (.int .i64 t)] := by
  unfold setTo; rw [List.map_set]; rfl
theorem lastW_mem {out : List (Int × Int)} (h : 1 ≤ out.length) : lastW out ∈ out := getD_mem _ _ (by omega)
theorem setTo_all {P : Int × Int → Prop} {out : List (Int × Int)} {t : Int} (h : ∀ w ∈ out, P w) (h1 : 1 ≤ out.length) (h2 : P ((lastW out).1, t)) : ∀ w ∈ setTo out t, P w := by
  intro w hw
  unfold setTo at hw
  rcases List.mem_or_eq_of_mem_set hw with hw | rfl
  · exact h w hw
  · exact h2
def rawStep (st sp un : Int) (x : List (Int × Int) × Bool) (s : Smp) : List (Int × Int) × Bool :=
  if s.a ≥ un ∨ s.q = 2 then x else if x.2 = false ∧ s.v ≥ st then (x.1 ++ [(s.a, un)], true) else if x.2 = true ∧ s.v < sp then (setTo x.1 s.a, false) else x
def rawW (st sp un : Int) (l : List Smp) : List (Int × Int) := (l.foldl (rawStep st sp un) ([], false)).1
def rawSt (l : List Smp) (st sp jn ls un i : Int) (out : List (Int × Int)) (op : Bool) : AS := ⟨tabV [(2, iv un), (3, .one (.bx 3 0)), (7, .one (.ow 7 0)), (8, bv op), (11, smps false l), (12, iv l.length), (13, iv i)], tabO [(3, [.g (.int .i64 st), .g (.int .i64 sp), .g (.int .i64 jn), .g (.int .i64 ls)])], tabO [(7, winRow out)]⟩
theorem raw_ok (st sp un : Int) (hun : 0 ≤ un ∧ un ≤ 345686400000) : ∀ (l : List Smp) (x : List (Int × Int) × Bool), (∀ s ∈ l, okSmp s) → (∀ w ∈ x.1, 0 ≤ w.1 ∧ w.1 ≤ 345686400000 ∧ 0 ≤ w.2 ∧ w.2 ≤ 345686400000) → (x.2 = true → 1 ≤ x.1.length) →
    ∀ w ∈ (l.foldl (rawStep st sp un) x).1, 0 ≤ w.1 ∧ w.1 ≤ 345686400000 ∧ 0 ≤ w.2 ∧ w.2 ≤ 345686400000
  | [], x, _, h, _ => h
  | s :: r, x, hs, h, ho => by
    have hs0 := hs s (by simp)
    unfold okSmp at hs0
    rw [List.foldl_cons]
    refine raw_ok st sp un hun r _ (fun y hy => hs y (by simp [hy])) ?_ ?_
    · unfold rawStep
      split
      · exact h
      · split
        · intro w hw
          simp only [List.mem_append, List.mem_cons, List.not_mem_nil, or_false] at hw
          rcases hw with hw | rfl
          · exact h w hw
          · simp only; omega
        · split
          · rename_i h3
            have h4 := h _ (lastW_mem (ho h3.1))
            exact setTo_all h (ho h3.1) ⟨h4.1, h4.2.1, by simp only; omega, by simp only; omega⟩
          · exact h
    · unfold rawStep
      split
      · exact ho
      · split
        · intro _; simp
        · split
          · simp
          · exact ho
theorem raw_len (st sp un : Int) : ∀ (l : List Smp) (x : List (Int × Int) × Bool), (l.foldl (rawStep st sp un) x).1.length ≤ x.1.length + l.length
  | [], x => by simp
  | s :: r, x => by
    rw [List.foldl_cons, List.length_cons]
    have := raw_len st sp un r (rawStep st sp un x s)
    have h2 : (rawStep st sp un x s).1.length ≤ x.1.length + 1 := by
      unfold rawStep
      split
      · omega
      · split
        · simp
        · split
          · simp only [setTo_len]; omega
          · omega
    omega
theorem Good.all {l : List Smp} (h : Good l) : ∀ s ∈ l, okSmp s := fun s hs => by
  obtain ⟨j, hj, rfl⟩ := List.mem_iff_getElem.1 hs
  have := h.ok j hj
  simpa [List.getD_eq_getElem?_getD, hj] using this
def jnStep (jn : Int) (out : List (Int × Int)) (f : Int × Int) : List (Int × Int) := if 1 ≤ out.length ∧ f.1 - (out.getD ((out.length : Int) - 1).toNat default).2 < jn then setTo out f.2 else out ++ [f]
def shortB (ls : Int) (f : Int × Int) : Bool := decide (f.2 - f.1 < ls)
def jnW (st sp jn un : Int) (l : List Smp) : List (Int × Int) := (rawW st sp un l).foldl (jnStep jn) []
def frmW (st sp jn ls un : Int) (l : List Smp) : List (Int × Int) := (jnW st sp jn un l).filter fun f => !shortB ls f
def okW (w : Int × Int) : Prop := 0 ≤ w.1 ∧ w.1 ≤ 345686400000 ∧ 0 ≤ w.2 ∧ w.2 ≤ 345686400000
theorem jn_ok (jn : Int) : ∀ (l out : List (Int × Int)), (∀ w ∈ l, okW w) → (∀ w ∈ out, okW w) → ∀ w ∈ l.foldl (jnStep jn) out, okW w
  | [], out, _, h => h
  | f :: r, out, hl, h => by
    rw [List.foldl_cons]
    refine jn_ok jn r _ (fun w hw => hl w (by simp [hw])) ?_
    have hf := hl f (by simp)
    unfold jnStep
    split
    · rename_i h3
      have h4 := h _ (lastW_mem h3.1)
      unfold okW at *
      exact setTo_all h h3.1 ⟨h4.1, h4.2.1, hf.2.2⟩
    · intro w hw
      simp only [List.mem_append, List.mem_cons, List.not_mem_nil, or_false] at hw
      rcases hw with hw | rfl
      · exact h w hw
      · exact hf
theorem jn_len (jn : Int) : ∀ (l out : List (Int × Int)), (l.foldl (jnStep jn) out).length ≤ out.length + l.length
  | [], out => by simp
  | f :: r, out => by
    rw [List.foldl_cons, List.length_cons]
    have := jn_len jn r (jnStep jn out f)
    have h2 : (jnStep jn out f).length ≤ out.length + 1 := by
      unfold jnStep; split
      · rw [setTo_len]; omega
      · simp
    omega
def frmSp (l : List Smp) (st sp jn ls un : Int) : List (Int × Int) × Int :=
  if orSp [trgF st sp jn ls, serFault l] ≠ 0 then ([], orSp [trgF st sp jn ls, serFault l]) else if un < 0 ∨ un > 345686400000 then ([], 1) else if (frmW st sp jn ls un l).length > 2000 then ([], 2) else (frmW st sp jn ls un l, 0)
theorem or2_z' {a b : Int} (h : orSp [a, b] = 0) : a = 0 ∧ b = 0 := by
  unfold orSp orSp orSp at h; split at h
  · omega
  · split at h <;> omega
def frmSt (m : List (Int × Int)) (st sp jn ls i : Int) (out : List (Int × Int)) : AS := ⟨tabV [(3, .one (.bx 3 0)), (9, .one (.ow 9 0)), (27, frsV true m), (28, iv m.length), (29, iv i)], tabO [(3, [.g (.int .i64 st), .g (.int .i64 sp), .g (.int .i64 jn), .g (.int .i64 ls)])], tabO [(9, winRow out)]⟩
end Go.Proofs.YtggbcgldnjmobaaDoor

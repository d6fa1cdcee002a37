
/-
  Recipes, and whether phases follow them.
-/
import Derived.Test.YtggbcgldnjmobaaPha
namespace Go.Proofs.Ytggbcgldnjmobaa
open Go Go.Ai
set_option linter.unusedSimpArgs false
set_option linter.unusedVariables false
set_option maxHeartbeats 4000000

/-- A stage: its number, whether it can be left out, and how often it may occur. -/
structure Sg where
  n : Int
  o : Bool
  k : Int
  deriving Inhabited
def sgC (x : Sg) : List Cel := [.g (.int .i64 x.n), .g (.bool x.o), .g (.int .i64 x.k)]
theorem sgC_eq (x : Sg) : sgC x = [.g (.int .i64 x.n), .g (.bool x.o), .g (.int .i64 x.k)] := (rfl)
theorem frE_sg (l : List Sg) : frE (l.map sgC) = true := frE_map (fun _ => rfl) l
theorem datE_sg (l : List Sg) : datE (l.map sgC) = l.map sgC := datE_map (fun _ => rfl) l
theorem tofE_sg (l : List Sg) : tofE (l.map sgC) = l.map sgC := tofE_map (fun _ => rfl) l
attribute [go_sem] sgC_eq frE_sg datE_sg tofE_sg
abbrev sgsV (fr : Bool) (l : List Sg) : Val := .one (.sl fr 3 (l.map sgC))
theorem anyG {α : Type} [Inhabited α] (p : α → Bool) (l : List α) : decide (idxG p 0 l ≥ 0) = l.any p := by
  rcases idxG_spec p l 0 (by omega) with ⟨h1, h2⟩ | ⟨h1, h2, h3, _⟩
  · rw [h1]
    have : l.any p = false := by rw [List.any_eq_false]; intro x hx; rw [h2 x hx]; simp
    rw [this]; rfl
  · have : l.any p = true := List.any_eq_true.2 ⟨_, getD_mem l _ (by omega), h3⟩
    rw [this]; simp [h1]
def ixS0 (cl : FuncId) (l : List Sg) (i : Int) : AS := ⟨tabV [(0, sgsV false l), (1, .one (.fn cl [])), (7, iv l.length), (8, iv i)], tabO [], tabO []⟩
def ixS1 (cl : FuncId) (cs : List Cel) (l : List Sg) (i : Int) : AS := ⟨tabV [(0, sgsV false l), (1, .one (.fn cl [.ep cs])), (7, iv l.length), (8, iv i)], tabO [], tabO []⟩
def needB (x : Sg) : Bool := !x.o
/-- Whether all stages can be left out. -/
def optB (r : List Sg) : Bool := !(r.any needB)
def sameB (n : Int) (x : Sg) : Bool := decide (x.n = n)
def badS (x : Sg) : Bool := decide ((x.n < 0 ∨ x.n > 1000) ∨ (x.k < 1 ∨ x.k > 100))
def dupB (r : List Sg) : Nat → Bool
  | 0 => false
  | i + 1 => dupB r i || (r.take i).any (sameB (r.getD i default).n)
theorem dupB_true {r : List Sg} {i : Nat} (h : (r.take i).any (sameB (r.getD i default).n) = true) : ∀ m, i < m → dupB r m = true
  | 0, hm => by omega
  | m + 1, hm => by
    rw [dupB]
    by_cases e : i = m
    · subst e; rw [h, Bool.or_true]
    · rw [dupB_true h m (by omega), Bool.true_or]
def rcF (r : List Sg) : Int := if r.length = 0 then 8 else if r.length > 100 then 2 else if r.any badS = true then 1 else if dupB r r.length = true then 6 else 0
def cr1St (r : List Sg) (i : Int) : AS := ⟨tabV [(0, sgsV false r), (15, sgsV false r), (16, iv r.length), (17, iv i)], tabO [], tabO []⟩
def cr2St (r : List Sg) (i : Int) : AS := ⟨tabV [(0, sgsV false r), (30, sgsV false r), (31, iv r.length), (32, iv i)], tabO [], tabO []⟩
/-- Whether phases follow a recipe from a stage on. -/
def flGo (r : List Sg) (len : Int) : Int → Int → Int → List Ph → Bool × Int
  | at_, many, i, [] => if optB (r.drop (at_ + 1).toNat) = true then (true, 0) else (false, len)
  | at_, many, i, x :: rest =>
    if 0 ≤ at_ ∧ (r.getD at_.toNat default).n = x.n then (if many + 1 > (r.getD at_.toNat default).k then (false, i) else flGo r len at_ (many + 1) (i + 1) rest)
    else if idxG (sameB x.n) 0 r ≤ at_ ∨ optB ((r.take (idxG (sameB x.n) 0 r).toNat).drop (at_ + 1).toNat) = false then (false, i) else flGo r len (idxG (sameB x.n) 0 r) 1 (i + 1) rest
def flSp (r : List Sg) (p : List Ph) : Bool × Int × Int := if orSp [rcF r, phF p] ≠ 0 then (false, 0, orSp [rcF r, phF p]) else ((flGo r p.length (-1) 0 0 p).1, (flGo r p.length (-1) 0 0 p).2, 0)
def fosSt (r : List Sg) (p : List Ph) (i at_ many : Int) : AS := ⟨tabV [(0, sgsV false r), (1, phsV false p), (8, iv at_), (9, iv many), (22, phsV false p), (23, iv p.length), (24, iv i)], tabO [], tabO []⟩
theorem rcF_len {r : List Sg} (h : rcF r = 0) : 1 ≤ r.length ∧ r.length ≤ 100 := by
  unfold rcF at h
  split at h
  · omega
  · split at h
    · omega
    · omega
theorem phF_len {p : List Ph} (h : phF p = 0) : p.length ≤ 5000 := by
  unfold phF at h
  split at h
  · omega
  · omega
end Go.Proofs.Ytggbcgldnjmobaa

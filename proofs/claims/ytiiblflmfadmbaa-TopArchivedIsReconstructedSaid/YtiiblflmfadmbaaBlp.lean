
/-
 Blocks of a file, in plain terms: numbers in few bytes, samples as differences, checksums; what is written so is read so.
-/
import Derived.Test.YtiiblflmfadmbaaBas
namespace Go.Proofs.Ytiiblflmfadmbaa
open Go Go.Ai
set_option linter.unusedSimpArgs false
set_option linter.unusedVariables false
set_option maxHeartbeats 4000000
/-- A number without its sign. -/
def zig (n : Int) : Int := if n < 0 then 0 - 2 * n - 1 else 2 * n
theorem zig_bd {n : Int} (h : -1000000000000 ≤ n ∧ n ≤ 1000000000000) : 0 ≤ zig n ∧ zig n ≤ 2000000000000 := by
 unfold zig; split <;> omega
theorem zig_inv (n : Int) : (if (zig n).tmod 2 = 1 then 0 - (zig n).tdiv 2 - 1 else (zig n).tdiv 2) = n := by
 have h0 : 0 ≤ zig n := by unfold zig; split <;> omega
 rw [Int.tmod_eq_emod_of_nonneg h0, Int.tdiv_eq_ediv_of_nonneg h0]
 unfold zig
 by_cases h : n < 0
 ·rw [if_pos h, if_pos (by omega)]; omega
 ·rw [if_neg h, if_neg (by omega)]; omega
/-- Its bytes, seven bits each, the low ones first. -/
def vB : Nat → Int → List Int
 | 0, _ => []
 | f + 1, z => if z > 127 then (z % 128 + 128) :: vB f (z / 128) else [z]
def vI (n : Int) : List Int := vB 10 (zig n)
theorem vB_len : ∀ (f : Nat) (z : Int), (vB f z).length ≤ f
 | 0, _ => Nat.le_refl _
 | f + 1, z => by
  rw [vB]
  split
  ·rw [List.length_cons]; have := vB_len f (z / 128); omega
  ·simp
theorem vB_byte : ∀ (f : Nat) (z : Int), 0 ≤ z → ∀ x ∈ vB f z, 0 ≤ x ∧ x ≤ 255
 | 0, _, _, x, h => by simp [vB] at h
 | f + 1, z, hz, x, h => by
  rw [vB] at h
  split at h
  ·rcases List.mem_cons.1 h with rfl | h
   ·omega
   ·exact vB_byte f _ (by omega) x h
  ·simp at h; omega
theorem vI_len (n : Int) : (vI n).length ≤ 10 := vB_len _ _
theorem vI_byte (n : Int) : ∀ x ∈ vI n, 0 ≤ x ∧ x ≤ 255 := vB_byte _ _ (by unfold zig; split <;> omega)
/-- Samples, each as it differs from the one before. -/
def smB (a v : Int) : List Smp → List Int
 | [] => []
 | s :: r => vI (s.a - a) ++ vI (s.v - v) ++ vI s.q ++ smB s.a s.v r
theorem smB_len : ∀ (l : List Smp) (a v : Int), (smB a v l).length ≤ 30 * l.length
 | [], _, _ => by simp [smB]
 | s :: r, a, v => by
  have h1 := smB_len r s.a s.v
  have h2 := vI_len (s.a - a)
  have h3 := vI_len (s.v - v)
  have h4 := vI_len s.q
  rw [smB]
  simp only [List.length_append, List.length_cons]
  omega
theorem smB_byte : ∀ (l : List Smp) (a v : Int), ∀ x ∈ smB a v l, 0 ≤ x ∧ x ≤ 255
 | [], _, _, x, h => by simp [smB] at h
 | s :: r, a, v, x, h => by
  rw [smB] at h
  simp only [List.mem_append] at h
  rcases h with ((h | h) | h) | h
  ·exact vI_byte _ x h
  ·exact vI_byte _ x h
  ·exact vI_byte _ x h
  ·exact smB_byte r _ _ x h
/-- The checksum of bytes, from one on. -/
def ckS (c : Int) (l : List Int) : Int := l.foldl (fun c x => (c * 31 + x + 1) % 65521) c
theorem ckS_bd : ∀ (l : List Int) (c : Int), 0 ≤ c ∧ c < 65521 → 0 ≤ ckS c l ∧ ckS c l < 65521
 | [], _, h => h
 | x :: r, c, _ => ckS_bd r ((c * 31 + x + 1) % 65521) (by omega)
/-- A block without its checksum; a block. -/
def bodyS (tag : List Int) (ov : Bool) (l : List Smp) : List Int := [167, if ov then 1 else 0] ++ vI tag.length ++ tag ++ vI l.length ++ smB 0 0 l
def encS (tag : List Int) (ov : Bool) (l : List Smp) : List Int := bodyS tag ov l ++ [ckS 1 (bodyS tag ov l) / 256, ckS 1 (bodyS tag ov l) % 256]
theorem bodyS_len (tag : List Int) (ov : Bool) (l : List Smp) : (bodyS tag ov l).length ≤ 22 + tag.length + 30 * l.length := by
 unfold bodyS
 have h1 := vI_len tag.length
 have h2 := vI_len l.length
 have h3 := smB_len l 0 0
 simp only [List.length_append, List.length_cons, List.length_nil]
 omega
theorem bodyS_byte (tag : List Int) (ov : Bool) (l : List Smp) (ht : ∀ x ∈ tag, 0 ≤ x ∧ x ≤ 255) : ∀ x ∈ bodyS tag ov l, 0 ≤ x ∧ x ≤ 255 := fun x h => by
 unfold bodyS at h
 simp only [List.mem_append, List.mem_cons, List.not_mem_nil, or_false] at h
 rcases h with (((h | h) | h) | h) | h
 ·rcases h with rfl | rfl
  ·omega
  ·split <;> omega
 ·exact vI_byte _ x h
 ·exact ht x h
 ·exact vI_byte _ x h
 ·exact smB_byte l _ _ x h
end Go.Proofs.Ytiiblflmfadmbaa

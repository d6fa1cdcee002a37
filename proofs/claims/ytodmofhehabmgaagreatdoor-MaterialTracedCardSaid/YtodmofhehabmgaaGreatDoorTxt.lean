/-
 Alarms as they are written, and as they are read. Plain Lean.
-/
import Derived.Test.YtodmofhehabmgaaGreatDoorNum
import Derived.Test.YtodmofhehabmgaaGreatDoorAlp
namespace Go.Proofs.YtodmofhehabmgaaGreatDoor
open Go Go.Ai
set_option linter.unusedSimpArgs false
set_option linter.unusedVariables false
set_option maxHeartbeats 4000000
abbrev miW : ByteArray := ByteArray.mk #[45]
def itB (n : Int) : ByteArray := bS (Lib.itoa n)
/-! ### reading -/
def wds (s : ByteArray) : List ByteArray := (spl 32 s.data.toList).map bS
def atN (w : ByteArray) : Int := (Lib.atoi w.data.toList).getD 0
def noB (w : ByteArray) : Bool := numOk w.data.toList
def linesA (t : List UInt8) : List ByteArray × Bool := if t = [] then ([], true) else if t.getLast? = some 10 then ((spl 10 t.dropLast).map bS, true) else ((spl 10 t).map bS, false)
/-! ### what is read is written so -/
/-! ### what is written is read as it was -/
/-- A word: no blank, no line feed in it. -/
def wdOk (w : ByteArray) : Prop := w ≠ emp ∧ (32 : UInt8) ∉ w.data.toList ∧ (10 : UInt8) ∉ w.data.toList
theorem szL (s : ByteArray) : s.size = s.data.toList.length := by cases s; rfl
theorem keyOk_wd {b : ByteArray} (h : keyOk b = true) : wdOk b ∧ b ≠ miW ∧ b.size ≤ 40 := by
 unfold keyOk at h
 simp only [Bool.and_eq_true, decide_eq_true_eq] at h
 obtain ⟨⟨h1, h2⟩, h3⟩ := h
 have hc : ∀ c ∈ b.data.toList, keyB c.toNat = true := fun c hc => by
  obtain ⟨i, hi, rfl⟩ := List.getElem_of_mem hc
  have := allTo_lt.1 h3 i (by rw [szL]; exact hi)
  rwa [byteN, List.getD_eq_getElem?_getD, List.getElem?_eq_getElem hi] at this
 refine ⟨⟨fun e => ?_, fun hh => ?_, fun hh => ?_⟩, fun e => ?_, h1.2⟩
 ·subst e; exact absurd h1.1 (by decide)
 ·have := hc _ hh; revert this; decide
 ·have := hc _ hh; revert this; decide
 ·subst e; revert h2; decide
theorem dig_no {c : UInt8} (h : isDig c = true) : c ≠ 32 ∧ c ≠ 10 := by
 refine ⟨fun e => ?_, fun e => ?_⟩ <;> subst e <;> revert h <;> decide
theorem itB_wd {n : Int} (h : -big15 < n ∧ n < big15) : wdOk (itB n) ∧ noB (itB n) = true ∧ atN (itB n) = n ∧ (itB n).size ≤ 16 := by
 obtain ⟨h1, h2⟩ := itoa_num h.1 h.2
 have hd : ∀ c ∈ Lib.itoa n, c ≠ 32 ∧ c ≠ 10 := by
  unfold Lib.itoa
  split
  ·intro c hc
   rcases List.mem_cons.1 hc with rfl | hc
   ·decide
   ·exact dig_no (List.all_eq_true.1 (decDigits_dig _) c hc)
  ·intro c hc
   exact dig_no (List.all_eq_true.1 (decDigits_dig _) c hc)
 have hl : (Lib.itoa n).length ≤ 16 := by
  have hb : big15 = 1000000000000000 := rfl
  unfold Lib.itoa
  split
  ·have := dd_len (n := n.natAbs) (by omega)
   simp; omega
  ·have := dd_len (n := n.toNat) (by omega)
   omega
 have hne : itB n ≠ emp := fun e => by
  have e2 : Lib.itoa n = [] := congrArg (fun b : ByteArray => b.data.toList) e
  rw [e2] at h1; revert h1; decide
 exact ⟨⟨hne, fun hc => (hd _ hc).1 rfl, fun hc => (hd _ hc).2 rfl⟩, h1, by unfold atN itB; rw [bS_list, h2]; rfl, by unfold itB; rw [bS_size]; exact hl⟩
theorem jnT_len (c : UInt8) (m : Nat) : ∀ (xs : List (List UInt8)), (∀ w ∈ xs, w.length ≤ m) → (jn c xs).length ≤ xs.length * (m + 1)
 | [], _ => by simp [jn]
 | [x], h => by have := h x (by simp); simp [jn]; omega
 | x :: y :: r, h => by
  have h1 := h x (by simp)
  have h2 := jnT_len c m (y :: r) (fun w hw => h w (by simp [hw]))
  rw [jn, List.length_append, List.length_cons]
  rw [List.length_cons, Nat.succ_mul]
  omega
/-! ### the law -/
end Go.Proofs.YtodmofhehabmgaaGreatDoor

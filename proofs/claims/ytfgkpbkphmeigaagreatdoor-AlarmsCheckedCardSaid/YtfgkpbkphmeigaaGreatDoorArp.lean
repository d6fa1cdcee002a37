/-
 Reading line after line, as the reference does it: in plain terms the same as the program does.
-/
import Derived.Test.YtfgkpbkphmeigaaGreatDoorTxt
namespace Go.Proofs.YtfgkpbkphmeigaaGreatDoor
open Go Go.Ai
set_option linter.unusedSimpArgs false
set_option linter.unusedVariables false
set_option maxHeartbeats 4000000
def cutA (t : List UInt8) : List UInt8 := t.takeWhile fun c => c != 10
def cutZ (t : List UInt8) : List UInt8 := (t.dropWhile fun c => c != 10).tail
theorem cutL_is : ∀ {t : List UInt8}, (10 : UInt8) ∈ t → t = cutA t ++ 10 :: cutZ t ∧ (10 : UInt8) ∉ cutA t
 | [], h => by simp at h
 | c :: t, h => by
  unfold cutA cutZ
  by_cases e : c = 10
  ·subst e; simp
  ·have h2 : (10 : UInt8) ∈ t := by
    rcases List.mem_cons.1 h with r | r
    ·exact absurd r.symm e
    ·exact r
   obtain ⟨h3, h4⟩ := cutL_is h2
   have hc : (c != 10) = true := by simpa using e
   rw [List.takeWhile_cons, if_pos hc, List.dropWhile_cons, if_pos hc]
   refine ⟨by rw [List.cons_append]; exact congrArg _ h3, fun h5 => ?_⟩
   rcases List.mem_cons.1 h5 with r | r
   ·exact e r.symm
   ·exact h4 r
theorem cut_len {t : List UInt8} (h : (10 : UInt8) ∈ t) : (cutA t).length + (cutZ t).length + 1 = t.length := by
 have := congrArg List.length (cutL_is h).1
 rw [List.length_append, List.length_cons] at this
 omega
theorem lines_cut {t : List UInt8} (h : (10 : UInt8) ∈ t) : linesA t = (bS (cutA t) :: (linesA (cutZ t)).1, (linesA (cutZ t)).2) ∧ ((linesA (cutZ t)).2 = false → (linesA (cutZ t)).1 ≠ []) := by
 obtain ⟨h1, h2⟩ := cutL_is h
 generalize cutA t = x at *
 generalize cutZ t = r at *
 subst h1
 unfold linesA
 rw [if_neg (by simp)]
 by_cases hr : r = []
 ·subst hr
  rw [if_pos rfl, if_pos (by simp), List.dropLast_concat, spl_one 10 x h2]
  exact ⟨rfl, by simp⟩
 ·have hl : (x ++ 10 :: r).getLast? = r.getLast? := by
   rcases List.eq_nil_or_concat r with rfl | ⟨r', z, rfl⟩
   ·exact absurd rfl hr
   ·rw [List.concat_eq_append, show x ++ 10 :: (r' ++ [z]) = (x ++ 10 :: r') ++ [z] by simp, List.getLast?_append, List.getLast?_append, List.getLast?_append]
    rfl
  rw [if_neg hr, hl]
  by_cases hn : r.getLast? = some 10
  ·rw [if_pos hn, if_pos hn, List.dropLast_append_of_ne_nil (by simp), List.dropLast_cons_of_ne_nil hr, spl_app 10 x _ h2]
   exact ⟨rfl, by simp⟩
  ·rw [if_neg hn, if_neg hn, spl_app 10 x r h2]
   exact ⟨rfl, fun _ => by simpa using spl_ne 10 r⟩
theorem lines_last {t : List UInt8} (h : (10 : UInt8) ∉ t) (h0 : t ≠ []) : linesA t = ([bS t], false) := by
 unfold linesA
 rw [if_neg h0, if_neg (fun e => h (List.mem_of_getLast? e)), spl_one 10 t h]
 rfl
/-- Alarms, line by line. -/
def rfA : Nat → List UInt8 → Int → List Alm → List Alm × Int × Bool
 | 0, _, i, o => (o, i, false)
 | n + 1, t, i, o => if t = [] then (o, 0, true) else if (10 : UInt8) ∉ t then (o, i, false) else if (rdL (bS (cutA t))).2 = true then rfA n (cutZ t) (i + 1) (o ++ [(rdL (bS (cutA t))).1]) else (o, i, false)
theorem rfA_is : ∀ (n : Nat) (t : List UInt8) (i : Int) (o : List Alm), t.length < n → (rfA n t i o).2 = (eachA (linesA t).2 (linesA t).1 i o).2 ∧ ((rfA n t i o).2.2 = true → (rfA n t i o).1 = (eachA (linesA t).2 (linesA t).1 i o).1)
 | 0, t, i, o, h => by omega
 | n + 1, t, i, o, h => by
  rw [rfA]
  by_cases h0 : t = []
  ·subst h0
   rw [if_pos rfl]
   exact ⟨rfl, fun _ => rfl⟩
  rw [if_neg h0]
  by_cases h1 : (10 : UInt8) ∉ t
  ·rw [if_pos h1, lines_last h1 h0]
   exact ⟨rfl, by simp⟩
  ·rw [if_neg h1]
   have h1 : (10 : UInt8) ∈ t := Classical.not_not.1 h1
   obtain ⟨e1, e2⟩ := lines_cut h1
   have hl := cut_len h1
   rw [e1]
   simp only
   have hc : ¬((!(linesA (cutZ t)).2 && decide ((linesA (cutZ t)).1.length = 0)) = true) := by
    cases hb : (linesA (cutZ t)).2 with
    | true => simp
    | false =>
     have := e2 hb
     have : (linesA (cutZ t)).1.length ≠ 0 := fun h => this (List.eq_nil_of_length_eq_zero h)
     simp [this]
   rw [eachA, if_neg hc]
   by_cases h3 : (rdL (bS (cutA t))).2 = true
   ·rw [if_pos h3, if_pos h3]
    exact rfA_is n _ _ _ (by omega)
   ·rw [if_neg h3, if_neg h3]
    exact ⟨rfl, by simp⟩
def rrF (t : List UInt8) : List Alm × Int × Int := if t.length > 200000 then ([], 0, 2) else if (rfA (t.length + 1) t 0 []).2.2 = false then ([], (rfA (t.length + 1) t 0 []).2.1, 9) else if afF (rfA (t.length + 1) t 0 []).1 ≠ 0 then ([], 0, afF (rfA (t.length + 1) t 0 []).1) else ((rfA (t.length + 1) t 0 []).1, 0, 0)
theorem rrF_is (t : List UInt8) (hq : ∀ l, caF l = afF l) : rrF t = rdF t := by
 unfold rrF rdF rdT
 obtain ⟨h1, h2⟩ := rfA_is (t.length + 1) t 0 [] (by omega)
 by_cases c0 : t.length > 200000
 ·rw [if_pos c0, if_pos c0]
 rw [if_neg c0, if_neg c0]
 generalize rfA (t.length + 1) t 0 [] = A at *
 generalize eachA (linesA t).2 (linesA t).1 0 [] = B at *
 obtain ⟨a1, a2, a3⟩ := A
 obtain ⟨b1, b2, b3⟩ := B
 simp only [Prod.mk.injEq] at h1 h2 ⊢
 obtain ⟨rfl, rfl⟩ := h1
 cases a3 with
 | false => rfl
 | true =>
  have := h2 rfl
  subst this
  rw [hq]
end Go.Proofs.YtfgkpbkphmeigaaGreatDoor

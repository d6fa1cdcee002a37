
/-
  Frames, in plain terms: what is wrong with them, and where those of two lists overlap.
-/
import Derived.Test.YtggbcgldnjmobaaFrm
namespace Go.Proofs.Ytggbcgldnjmobaa
open Go Go.Ai
set_option linter.unusedSimpArgs false
set_option linter.unusedVariables false
set_option maxHeartbeats 4000000
/-- What is wrong with windows, one behind the other. -/
def fwGo : Option (Int × Int) → List (Int × Int) → Int
  | _, [] => 0
  | p, w :: t => if w.1 < 0 ∨ w.1 ≥ w.2 ∨ w.2 > 345686400000 then 1 else if (match p with | none => false | some y => decide (w.1 < y.2)) then 7 else fwGo (some w) t
def fwF (l : List (Int × Int)) : Int := if 2000 < l.length then 2 else fwGo none l
def prvW (l : List (Int × Int)) (i : Nat) : Option (Int × Int) := if i = 0 then none else some (l.getD (i - 1) default)
theorem fwGo_step (l : List (Int × Int)) (i : Nat) (h : i < l.length) : fwGo (prvW l i) (l.drop i) = if (l.getD i default).1 < 0 ∨ (l.getD i default).1 ≥ (l.getD i default).2 ∨ (l.getD i default).2 > 345686400000 then 1 else if (0 < i ∧ (l.getD i default).1 < (l.getD (i - 1) default).2) then 7 else fwGo (prvW l (i + 1)) (l.drop (i + 1)) := by
  have e : l.drop i = l.getD i default :: l.drop (i + 1) := by
    rw [List.drop_eq_getElem_cons h]; simp [List.getD_eq_getElem?_getD, h]
  rw [e, fwGo.eq_def]
  simp only []
  by_cases hi : i = 0
  · subst hi; simp [prvW]
  · have : 0 < i := by omega
    simp [prvW, hi, this]
/-- Windows that follow each other, from a moment on. -/
def Fch : Int → List (Int × Int) → Prop
  | _, [] => True
  | lo, w :: r => lo ≤ w.1 ∧ w.1 < w.2 ∧ w.2 ≤ 345686400000 ∧ Fch w.2 r
theorem fwGo_c (p : Option (Int × Int)) (w : Int × Int) (r : List (Int × Int)) (h : fwGo p (w :: r) = 0) : 0 ≤ w.1 ∧ w.1 < w.2 ∧ w.2 ≤ 345686400000 ∧ (∀ y, p = some y → y.2 ≤ w.1) ∧ fwGo (some w) r = 0 := by
  rw [fwGo.eq_def] at h
  simp only [] at h
  by_cases h1 : w.1 < 0 ∨ w.1 ≥ w.2 ∨ w.2 > 345686400000
  · rw [if_pos h1] at h; omega
  · rw [if_neg h1] at h
    cases p with
    | none =>
      simp only [Bool.false_eq_true, if_false] at h
      exact ⟨by omega, by omega, by omega, fun y hy => (by cases hy), h⟩
    | some y =>
      simp only [decide_eq_true_eq] at h
      by_cases h2 : w.1 < y.2
      · rw [if_pos h2] at h; omega
      · rw [if_neg h2] at h
        exact ⟨by omega, by omega, by omega, fun z hz => by injection hz with hz; subst hz; omega, h⟩
theorem fch_of : ∀ (l : List (Int × Int)) (p : Option (Int × Int)) (lo : Int), fwGo p l = 0 → (∀ y, p = some y → y.2 = lo) → (p = none → lo = 0) → Fch lo l
  | [], _, _, _, _, _ => trivial
  | w :: r, p, lo, h, h1, h2 => by
    obtain ⟨k1, k2, k3, k4, k5⟩ := fwGo_c p w r h
    refine ⟨?_, k2, k3, fch_of r (some w) w.2 k5 (fun y hy => by injection hy with hy; rw [hy]) (fun hn => by cases hn)⟩
    cases p with
    | none => have := h2 rfl; omega
    | some y => have := h1 y rfl; have := k4 y rfl; omega
theorem fwF_ok {l : List (Int × Int)} (h : fwF l = 0) : l.length ≤ 2000 ∧ Fch 0 l := by
  unfold fwF at h
  split at h
  · omega
  · refine ⟨by omega, ?_⟩
    exact fch_of l none 0 h (fun y hy => by cases hy) (fun _ => rfl)
theorem fwF_of {l : List (Int × Int)} : ∀ (p : Option (Int × Int)) {lo : Int}, 0 ≤ lo → (∀ y, p = some y → y.2 ≤ lo) → Fch lo l → fwGo p l = 0 := by
  induction l with
  | nil => intro p lo _ _ _; rfl
  | cons w r ih =>
    intro p lo h0 hp h
    obtain ⟨h1, h2, h3, h4⟩ := h
    rw [fwGo.eq_def]
    simp only []
    rw [if_neg (by omega), if_neg, ih (some w) (lo := w.2) (by omega) (fun y hy => by injection hy with hy; subst hy; exact Int.le_refl _) h4]
    cases p with
    | none => simp
    | some y => have := hp y rfl; simp; omega
theorem Fch.ge : ∀ {m : List (Int × Int)} {lo : Int}, Fch lo m → ∀ p ∈ m, lo ≤ p.1 ∧ p.1 < p.2 ∧ p.2 ≤ 345686400000
  | [], lo, _, p, hp => by cases hp
  | x :: r, lo, h, p, hp => by
    obtain ⟨h1, h2, h3, h4⟩ := h
    simp only [List.mem_cons] at hp
    rcases hp with rfl | hp
    · exact ⟨h1, h2, h3⟩
    · have := h4.ge p hp; exact ⟨by omega, this.2⟩
/-- Where two windows overlap. -/
def ovlW (x y : Int × Int) : List (Int × Int) := if max x.1 y.1 < min x.2 y.2 then [(max x.1 y.1, min x.2 y.2)] else []
def OV1 (x : Int × Int) : List (Int × Int) → List (Int × Int)
  | [] => []
  | y :: B => ovlW x y ++ OV1 x B
def OV2 (B : List (Int × Int)) : List (Int × Int) → List (Int × Int)
  | [] => []
  | x :: A => OV1 x B ++ OV2 B A
def lenS : List (Int × Int) → Int
  | [] => 0
  | w :: r => (w.2 - w.1) + lenS r
theorem lenS_app : ∀ a b : List (Int × Int), lenS (a ++ b) = lenS a + lenS b
  | [], b => by simp [lenS]
  | y :: a, b => by rw [List.cons_append, lenS, lenS, lenS_app a b]; omega
theorem ovlW_nil {p q : Int × Int} (h : p.2 ≤ q.1 ∨ q.2 ≤ p.1) : ovlW p q = [] := by
  unfold ovlW; rw [if_neg (by omega)]
theorem OV1_nil {p : Int × Int} : ∀ {B : List (Int × Int)}, (∀ q ∈ B, p.2 ≤ q.1) → OV1 p B = []
  | [], _ => rfl
  | q :: B, h => by
    rw [OV1, ovlW_nil (.inl (h q (by simp))), OV1_nil (fun x hx => h x (by simp [hx]))]; rfl
theorem OV2_nil : ∀ A : List (Int × Int), OV2 [] A = []
  | [] => rfl
  | p :: A => by rw [OV2, OV2_nil A]; rfl
theorem OV2_col {q : Int × Int} {B : List (Int × Int)} : ∀ {A : List (Int × Int)}, (∀ p ∈ A, q.2 ≤ p.1) → OV2 (q :: B) A = OV2 B A
  | [], _ => rfl
  | p :: A, h => by
    rw [OV2, OV2, OV1, ovlW_nil (.inr (h p (by simp))), OV2_col (fun x hx => h x (by simp [hx]))]; rfl
theorem OV2_step {p q : Int × Int} {A B : List (Int × Int)} {lo lo' : Int} (hA : Fch lo (p :: A)) (hB : Fch lo' (q :: B)) : OV2 (q :: B) (p :: A) = ovlW p q ++ (if p.2 ≤ q.2 then OV2 (q :: B) A else OV2 B (p :: A)) := by
  by_cases h : p.2 ≤ q.2
  · rw [if_pos h, OV2, OV1, OV1_nil (fun x hx => by have := (hB.2.2.2.ge x hx).1; omega), List.append_nil]
  · rw [if_neg h, OV2, OV1, OV2, OV2_col (fun x hx => by have := (hA.2.2.2.ge x hx).1; omega), List.append_assoc]
theorem ovlW_len (p q : Int × Int) : (ovlW p q).length ≤ 1 := by
  unfold ovlW; split <;> simp
theorem OV1_len (p : Int × Int) : ∀ B : List (Int × Int), (OV1 p B).length ≤ B.length
  | [] => by simp [OV1]
  | q :: B => by
    have h1 := ovlW_len p q
    have h2 := OV1_len p B
    rw [OV1, List.length_append, List.length_cons]; omega
theorem OV2_len (B : List (Int × Int)) : ∀ A : List (Int × Int), (OV2 B A).length ≤ A.length * B.length
  | [] => by simp [OV2]
  | p :: A => by
    have h1 := OV1_len p B
    have h2 := OV2_len B A
    rw [OV2, List.length_append, List.length_cons, Nat.add_mul]; omega
end Go.Proofs.Ytggbcgldnjmobaa


/-
  Frames, told from the front: where they begin and end, and how far they are apart.
-/
import Derived.Test.YtggbcgldnjmobaaFrp
namespace Go.Proofs.Ytggbcgldnjmobaa
open Go Go.Ai
set_option linter.unusedSimpArgs false
set_option linter.unusedVariables false
set_option maxHeartbeats 4000000
/-- Samples in order, from a moment on. -/
def Asc : Int → List Smp → Prop
  | _, [] => True
  | lo, s :: r => lo ≤ s.a ∧ okSmp s ∧ Asc (s.a + 1) r
theorem serGo_cs (p : Option Smp) (x : Smp) (r : List Smp) (h : serGo p (x :: r) = 0) : smpFault x = 0 ∧ (∀ y, p = some y → y.a < x.a) ∧ serGo (some x) r = 0 := by
  rw [serGo.eq_def] at h
  simp only [] at h
  by_cases h1 : smpFault x ≠ 0
  · rw [if_pos h1] at h; omega
  · rw [if_neg h1] at h
    cases p with
    | none =>
      simp only [Bool.false_eq_true, if_false] at h
      exact ⟨by omega, fun y hy => (by cases hy), h⟩
    | some y =>
      simp only [decide_eq_true_eq] at h
      by_cases h2 : x.a ≤ y.a
      · rw [if_pos h2] at h; omega
      · rw [if_neg h2] at h
        exact ⟨by omega, fun z hz => by injection hz with hz; subst hz; omega, h⟩
theorem asc_go : ∀ (l : List Smp) (p : Option Smp) (lo : Int), serGo p l = 0 → (∀ y, p = some y → y.a + 1 = lo) → (p = none → lo = 0) → Asc lo l
  | [], _, _, _, _, _ => trivial
  | x :: r, p, lo, h, h1, h2 => by
    obtain ⟨k1, k2, k3⟩ := serGo_cs p x r h
    have h5 := (okSmp_of k1).1
    refine ⟨?_, h5, asc_go r (some x) (x.a + 1) k3 (fun y hy => by injection hy with hy; rw [hy]) (fun hn => by cases hn)⟩
    unfold okSmp at h5
    cases p with
    | none => have := h2 rfl; omega
    | some y => have := h1 y rfl; have := k2 y rfl; omega
theorem asc_of {l : List Smp} (h : serFault l = 0) : Asc 0 l := asc_go l none 0 (serFault_ok h).2 (fun y hy => by cases hy) (fun _ => rfl)
theorem Asc.ge : ∀ {l : List Smp} {lo : Int}, Asc lo l → ∀ s ∈ l, lo ≤ s.a ∧ okSmp s
  | [], _, _, s, hs => by cases hs
  | x :: r, lo, h, s, hs => by
    obtain ⟨h1, h2, h3⟩ := h
    simp only [List.mem_cons] at hs
    rcases hs with rfl | hs
    · exact ⟨h1, h2⟩
    · have := h3.ge s hs; exact ⟨by omega, this.2⟩
theorem snoc_last (a : List (Int × Int)) (b : Int × Int) : (a ++ [b]).getD (((a ++ [b]).length : Int) - 1).toNat default = b := by
  have e : (((a ++ [b]).length : Int) - 1).toNat = a.length := by simp
  rw [e, List.getD_eq_getElem?_getD]; simp
theorem snoc_set (a : List (Int × Int)) (b : Int × Int) (t : Int) : setTo (a ++ [b]) t = a ++ [(b.1, t)] := by
  unfold setTo
  rw [snoc_last]
  have e : (((a ++ [b]).length : Int) - 1).toNat = a.length := by simp
  rw [e]; simp
/-- The frames of samples; a frame may be open from a moment on. -/
def rawR (st sp un : Int) : Option Int → List Smp → List (Int × Int)
  | none, [] => []
  | some f, [] => [(f, un)]
  | none, s :: r => if s.a ≥ un ∨ s.q = 2 then rawR st sp un none r else if s.v ≥ st then rawR st sp un (some s.a) r else rawR st sp un none r
  | some f, s :: r => if s.a ≥ un ∨ s.q = 2 then rawR st sp un (some f) r else if s.v < sp then (f, s.a) :: rawR st sp un none r else rawR st sp un (some f) r
theorem raw_R (st sp un : Int) : ∀ (l : List Smp) (out : List (Int × Int)), (l.foldl (rawStep st sp un) (out, false)).1 = out ++ rawR st sp un none l ∧ ∀ f, (l.foldl (rawStep st sp un) (out ++ [(f, un)], true)).1 = out ++ rawR st sp un (some f) l
  | [], out => by simp [rawR]
  | s :: r, out => by
    have ih := raw_R st sp un r
    refine ⟨?_, fun f => ?_⟩
    · rw [List.foldl_cons, rawR]
      unfold rawStep
      by_cases c1 : s.a ≥ un ∨ s.q = 2
      · rw [if_pos c1, if_pos c1]; exact (ih out).1
      · rw [if_neg c1, if_neg c1]
        by_cases c2 : s.v ≥ st
        · rw [if_pos ⟨rfl, c2⟩, if_pos c2]; exact (ih out).2 s.a
        · rw [if_neg (fun h => c2 h.2), if_neg (fun h => by simp at h), if_neg c2]; exact (ih out).1
    · rw [List.foldl_cons, rawR]
      unfold rawStep
      by_cases c1 : s.a ≥ un ∨ s.q = 2
      · rw [if_pos c1, if_pos c1]; exact (ih out).2 f
      · rw [if_neg c1, if_neg c1, if_neg (fun h => by simp at h)]
        by_cases c2 : s.v < sp
        · rw [if_pos ⟨rfl, c2⟩, if_pos c2, snoc_set]
          have := (ih (out ++ [(f, s.a)])).1
          rw [List.append_assoc] at this
          exact this
        · rw [if_neg (fun h => c2 h.2), if_neg c2]; exact (ih out).2 f
theorem rawW_R (st sp un : Int) (l : List Smp) : rawW st sp un l = rawR st sp un none l := by
  have := (raw_R st sp un l []).1
  unfold rawW; simpa using this
theorem Fch.mono {l : List (Int × Int)} {lo lo' : Int} (h : Fch lo l) (hle : lo' ≤ lo) : Fch lo' l := by
  cases l with
  | nil => trivial
  | cons w r => exact ⟨by have := h.1; omega, h.2⟩
theorem raw_fch {st sp un : Int} (hun : un ≤ 345686400000) : ∀ (l : List Smp) (lo : Int), Asc lo l → Fch lo (rawR st sp un none l) ∧ ∀ f g, g ≤ f → f < lo → f < un → Fch g (rawR st sp un (some f) l)
  | [], lo, _ => ⟨trivial, fun f g h1 h2 h3 => ⟨h1, h3, hun, trivial⟩⟩
  | s :: r, lo, h => by
    obtain ⟨h1, h2, h3⟩ := h
    obtain ⟨i1, i2⟩ := raw_fch hun r (s.a + 1) h3 (st := st) (sp := sp)
    have hs := h2
    unfold okSmp at hs
    refine ⟨?_, fun f g hg hf hf2 => ?_⟩
    · rw [rawR]
      split
      · exact i1.mono (by omega)
      · rename_i c1
        split
        · exact i2 s.a lo (by omega) (by omega) (by omega)
        · exact i1.mono (by omega)
    · rw [rawR]
      split
      · exact i2 f g hg (by omega) hf2
      · split
        · exact ⟨hg, by simp only; omega, by simp only; omega, i1.mono (by simp only; omega)⟩
        · exact i2 f g hg (by omega) hf2
theorem raw_mem {st sp un : Int} : ∀ (l : List Smp), (∀ w ∈ rawR st sp un none l, (∃ s ∈ l, s.a = w.1 ∧ s.v ≥ st ∧ ¬s.q = 2 ∧ s.a < un) ∧ w.2 ≤ un) ∧ ∀ f, ∀ w ∈ rawR st sp un (some f) l, (w.1 = f ∨ ∃ s ∈ l, s.a = w.1 ∧ s.v ≥ st ∧ ¬s.q = 2 ∧ s.a < un) ∧ w.2 ≤ un
  | [] => by simp [rawR]
  | s :: r => by
    obtain ⟨i1, i2⟩ := raw_mem r (st := st) (sp := sp) (un := un)
    have j1 : ∀ w ∈ rawR st sp un none r, (∃ s' ∈ s :: r, s'.a = w.1 ∧ s'.v ≥ st ∧ ¬s'.q = 2 ∧ s'.a < un) ∧ w.2 ≤ un := fun w hw => by
      obtain ⟨⟨x, hx, h⟩, h2⟩ := i1 w hw
      exact ⟨⟨x, by simp [hx], h⟩, h2⟩
    have j2 : ∀ f, ∀ w ∈ rawR st sp un (some f) r, (w.1 = f ∨ ∃ s' ∈ s :: r, s'.a = w.1 ∧ s'.v ≥ st ∧ ¬s'.q = 2 ∧ s'.a < un) ∧ w.2 ≤ un := fun f w hw => by
      obtain ⟨h1, h2⟩ := i2 f w hw
      refine ⟨?_, h2⟩
      rcases h1 with h1 | ⟨x, hx, h⟩
      · exact .inl h1
      · exact .inr ⟨x, by simp [hx], h⟩
    refine ⟨?_, fun f => ?_⟩
    · rw [rawR]
      split
      · exact j1
      · rename_i c1
        split
        · rename_i c2
          intro w hw
          obtain ⟨h1, h2⟩ := j2 s.a w hw
          refine ⟨?_, h2⟩
          rcases h1 with h1 | h1
          · exact ⟨s, by simp, h1.symm, c2, by omega, by omega⟩
          · exact h1
        · exact j1
    · rw [rawR]
      split
      · exact j2 f
      · rename_i c1
        split
        · intro w hw
          simp only [List.mem_cons] at hw
          rcases hw with rfl | hw
          · exact ⟨.inl rfl, by simp only; omega⟩
          · obtain ⟨h1, h2⟩ := j1 w hw
            exact ⟨.inr h1, h2⟩
        · exact j2 f
/-- Frames joined, behind one. -/
def jnR (jn : Int) : Int × Int → List (Int × Int) → List (Int × Int)
  | x, [] => [x]
  | x, f :: r => if f.1 - x.2 < jn then jnR jn (x.1, f.2) r else x :: jnR jn f r
theorem jn_R (jn : Int) : ∀ (l : List (Int × Int)) (out : List (Int × Int)) (x : Int × Int), l.foldl (jnStep jn) (out ++ [x]) = out ++ jnR jn x l
  | [], out, x => by simp [jnR]
  | f :: r, out, x => by
    have e : jnStep jn (out ++ [x]) f = if 1 ≤ (out ++ [x]).length ∧ f.1 - x.2 < jn then out ++ [(x.1, f.2)] else out ++ [x] ++ [f] := by
      unfold jnStep; rw [snoc_last, snoc_set]
    rw [List.foldl_cons, jnR, e]
    by_cases c1 : f.1 - x.2 < jn
    · rw [if_pos ⟨by simp, c1⟩, if_pos c1]; exact jn_R jn r out _
    · rw [if_neg (fun h => c1 h.2), if_neg c1]
      have := jn_R jn r (out ++ [x]) f
      rw [this, List.append_assoc]; rfl
def jnL (jn : Int) : List (Int × Int) → List (Int × Int)
  | [] => []
  | f :: r => jnR jn f r
theorem jn_L (jn : Int) (l : List (Int × Int)) : l.foldl (jnStep jn) [] = jnL jn l := by
  cases l with
  | nil => rfl
  | cons f r =>
    have := jn_R jn r [] f
    have e : jnStep jn [] f = [f] := by unfold jnStep; rw [if_neg (by simp)]; rfl
    rw [List.foldl_cons, jnL, e]
    simpa using this
/-- Windows that are so far apart. -/
def Gch (jn : Int) : Int → List (Int × Int) → Prop
  | _, [] => True
  | lo, w :: r => lo ≤ w.1 ∧ w.1 < w.2 ∧ w.2 ≤ 345686400000 ∧ Gch jn (w.2 + jn) r
theorem Gch.mono {jn : Int} {l : List (Int × Int)} {lo lo' : Int} (h : Gch jn lo l) (hle : lo' ≤ lo) : Gch jn lo' l := by
  cases l with
  | nil => trivial
  | cons w r => exact ⟨by have := h.1; omega, h.2⟩
theorem Gch.fch {jn : Int} (hj : 0 ≤ jn) : ∀ {l : List (Int × Int)} {lo : Int}, Gch jn lo l → Fch lo l
  | [], _, _ => trivial
  | w :: r, lo, h => ⟨h.1, h.2.1, h.2.2.1, (h.2.2.2.fch hj).mono (by omega)⟩
theorem Gch.filter {jn : Int} (hj : 0 ≤ jn) (p : Int × Int → Bool) : ∀ {l : List (Int × Int)} {lo : Int}, Gch jn lo l → Gch jn lo (l.filter p)
  | [], _, _ => trivial
  | w :: r, lo, h => by
    obtain ⟨h1, h2, h3, h4⟩ := h
    rw [List.filter_cons]
    split
    · exact ⟨h1, h2, h3, h4.filter hj p⟩
    · exact (h4.filter hj p).mono (by omega)
theorem jn_gch {jn : Int} (hj : 0 ≤ jn) : ∀ (l : List (Int × Int)) (x : Int × Int) (lo : Int), lo ≤ x.1 → x.1 < x.2 → x.2 ≤ 345686400000 → Fch x.2 l → Gch jn lo (jnR jn x l)
  | [], x, lo, h1, h2, h3, _ => ⟨h1, h2, h3, trivial⟩
  | f :: r, x, lo, h1, h2, h3, h => by
    obtain ⟨k1, k2, k3, k4⟩ := h
    rw [jnR]
    split
    · exact jn_gch hj r (x.1, f.2) lo h1 (by simp only; omega) k3 k4
    · exact ⟨h1, h2, h3, jn_gch hj r f (x.2 + jn) (by omega) k2 k3 k4⟩
theorem jnL_gch {jn : Int} (hj : 0 ≤ jn) {l : List (Int × Int)} {lo : Int} (h : Fch lo l) : Gch jn lo (jnL jn l) := by
  cases l with
  | nil => trivial
  | cons f r => exact jn_gch hj r f lo h.1 h.2.1 h.2.2.1 h.2.2.2
theorem jn_mem (jn : Int) : ∀ (l : List (Int × Int)) (x : Int × Int), ∀ w ∈ jnR jn x l, (w.1 = x.1 ∨ ∃ y ∈ l, w.1 = y.1) ∧ (w.2 = x.2 ∨ ∃ y ∈ l, w.2 = y.2)
  | [], x, w, hw => by
    simp only [jnR, List.mem_singleton] at hw; subst hw; exact ⟨.inl rfl, .inl rfl⟩
  | f :: r, x, w, hw => by
    rw [jnR] at hw
    split at hw
    · obtain ⟨h1, h2⟩ := jn_mem jn r (x.1, f.2) w hw
      refine ⟨?_, ?_⟩
      · rcases h1 with h1 | ⟨y, hy, h1⟩
        · exact .inl h1
        · exact .inr ⟨y, by simp [hy], h1⟩
      · rcases h2 with h2 | ⟨y, hy, h2⟩
        · exact .inr ⟨f, by simp, h2⟩
        · exact .inr ⟨y, by simp [hy], h2⟩
    · simp only [List.mem_cons] at hw
      rcases hw with rfl | hw
      · exact ⟨.inl rfl, .inl rfl⟩
      · obtain ⟨h1, h2⟩ := jn_mem jn r f w hw
        refine ⟨?_, ?_⟩
        · rcases h1 with h1 | ⟨y, hy, h1⟩
          · exact .inr ⟨f, by simp, h1⟩
          · exact .inr ⟨y, by simp [hy], h1⟩
        · rcases h2 with h2 | ⟨y, hy, h2⟩
          · exact .inr ⟨f, by simp, h2⟩
          · exact .inr ⟨y, by simp [hy], h2⟩
theorem jnL_mem (jn : Int) {l : List (Int × Int)} {w : Int × Int} (hw : w ∈ jnL jn l) : (∃ y ∈ l, w.1 = y.1) ∧ ∃ y ∈ l, w.2 = y.2 := by
  cases l with
  | nil => cases hw
  | cons f r =>
    obtain ⟨h1, h2⟩ := jn_mem jn r f w hw
    refine ⟨?_, ?_⟩
    · rcases h1 with h1 | ⟨y, hy, h1⟩
      · exact ⟨f, by simp, h1⟩
      · exact ⟨y, by simp [hy], h1⟩
    · rcases h2 with h2 | ⟨y, hy, h2⟩
      · exact ⟨f, by simp, h2⟩
      · exact ⟨y, by simp [hy], h2⟩
theorem Gch.at {jn : Int} : ∀ {l : List (Int × Int)} {lo : Int}, Gch jn lo l → ∀ i : Nat, i + 1 < l.length → (l.getD i default).2 + jn ≤ (l.getD (i + 1) default).1
  | [], _, _, i, h => by simp at h
  | [w], _, _, i, h => by simp at h
  | w :: y :: r, lo, h, i, hi => by
    obtain ⟨h1, h2, h3, h4⟩ := h
    cases i with
    | zero => exact h4.1
    | succ i => exact h4.at i (by simpa using hi)
/-- Frames of right arguments. -/
theorem frm_gch {st sp jn ls un : Int} {l : List Smp} (hj : 0 ≤ jn) (hun : un ≤ 345686400000) (h : Asc 0 l) : Gch jn 0 (frmW st sp jn ls un l) := by
  unfold frmW jnW
  rw [rawW_R, jn_L]
  exact (jnL_gch hj (raw_fch hun l 0 h).1).filter hj _
theorem frm_mem {st sp jn ls un : Int} {l : List Smp} {w : Int × Int} (hw : w ∈ frmW st sp jn ls un l) : (∃ s ∈ l, s.a = w.1 ∧ s.v ≥ st ∧ ¬s.q = 2 ∧ s.a < un) ∧ w.2 ≤ un ∧ ls ≤ w.2 - w.1 := by
  unfold frmW jnW at hw
  rw [rawW_R, jn_L, List.mem_filter] at hw
  obtain ⟨h1, h2⟩ := hw
  obtain ⟨⟨y, hy, e1⟩, ⟨z, hz, e2⟩⟩ := jnL_mem jn h1
  obtain ⟨⟨s, hs, k1, k2⟩, _⟩ := (raw_mem l).1 y hy
  obtain ⟨_, k4⟩ := (raw_mem l).1 z hz
  refine ⟨⟨s, hs, by rw [e1]; exact k1, k2⟩, by rw [e2]; exact k4, ?_⟩
  unfold shortB at h2
  simp at h2
  omega
theorem frm_len (st sp jn ls un : Int) (l : List Smp) : (frmW st sp jn ls un l).length ≤ l.length := by
  unfold frmW jnW rawW
  have h1 := List.length_filter_le (fun f => !shortB ls f) ((l.foldl (rawStep st sp un) ([], false)).1.foldl (jnStep jn) [])
  have h2 := jn_len jn (l.foldl (rawStep st sp un) ([], false)).1 []
  have h3 := raw_len st sp un l ([], false)
  simp only [List.length_nil, Nat.zero_add] at h2 h3
  omega
theorem frmSp_ok {st sp jn ls un : Int} {l : List Smp} (ht : trgF st sp jn ls = 0) (hs : serFault l = 0) (hu : 0 ≤ un ∧ un ≤ 345686400000) (hl : l.length ≤ 2000) : frmSp l st sp jn ls un = (frmW st sp jn ls un l, 0) := by
  have h1 := frm_len st sp jn ls un l
  unfold frmSp
  rw [if_neg (by rw [ht, hs]; decide), if_neg (by omega), if_neg (by omega)]
theorem frm_jn0 {l : List (Int × Int)} {x : Int × Int} (h : Fch x.2 l) : jnR 0 x l = x :: l := by
  induction l generalizing x with
  | nil => rfl
  | cons f r ih =>
    obtain ⟨h1, h2, h3, h4⟩ := h
    rw [jnR, if_neg (by omega), ih h4]
theorem frm_plain {st sp un : Int} {l : List Smp} (hun : un ≤ 345686400000) (h : Asc 0 l) : frmW st sp 0 0 un l = rawW st sp un l := by
  have hf := (raw_fch hun l 0 h (st := st) (sp := sp)).1
  unfold frmW jnW
  rw [jn_L, rawW_R]
  cases he : rawR st sp un none l with
  | nil => rfl
  | cons x r =>
    rw [he] at hf
    rw [jnL, frm_jn0 hf.2.2.2, List.filter_eq_self]
    intro w hw
    have := hf.ge w hw
    unfold shortB
    simp; omega
end Go.Proofs.Ytggbcgldnjmobaa


/-
  Whether phases follow a recipe: the greedy walk is the search through all ways, as the numbers of the stages are apart. Plain Lean.
-/
import Derived.Test.YtggbcgldnjmobaaFol
namespace Go.Proofs.Ytggbcgldnjmobaa
open Go Go.Ai
set_option linter.unusedSimpArgs false
set_option linter.unusedVariables false
set_option maxHeartbeats 4000000
/-- Whether phases can be as far as they go from the first of these stages on, which was met so often. -/
def begG (w : Bool) : List Sg → List Ph → Int → Bool
  | [], [], _ => true
  | [], _ :: _, _ => false
  | s :: rest, [], m => !w || ((decide (m > 0) || s.o) && begG w rest [] 0)
  | s :: rest, x :: q, m => (decide (x.n = s.n) && (decide (m < s.k) && begG w (s :: rest) q (m + 1))) || ((decide (m > 0) || s.o) && begG w rest (x :: q) 0)
  termination_by rs p _ => rs.length + p.length
  decreasing_by all_goals (simp only [List.length_cons, List.length_nil]; omega)
theorem begG_f (rs : List Sg) (m : Int) : begG false rs [] m = true := by
  cases rs with
  | nil => rw [begG]
  | cons s t => rw [begG]; simp
theorem beg_nom (w : Bool) (x : Ph) (q : List Ph) : ∀ rs : List Sg, (∀ s ∈ rs, s.n ≠ x.n) → begG w rs (x :: q) 0 = false
  | [], _ => by rw [begG]
  | s :: t, h => by
    rw [begG, beg_nom w x q t (fun s hs => h s (by simp [hs])), decide_eq_false (fun e => h s (by simp) e.symm)]
    simp
theorem optB_cons (s : Sg) (a : List Sg) : optB (s :: a) = (s.o && optB a) := by
  unfold optB needB
  rw [List.any_cons]
  cases s.o <;> simp
theorem beg_skip (w : Bool) (x : Ph) (q : List Ph) (b : List Sg) : ∀ a : List Sg, (∀ s ∈ a, s.n ≠ x.n) → begG w (a ++ b) (x :: q) 0 = (optB a && begG w b (x :: q) 0)
  | [], _ => by simp [optB]
  | s :: t, h => by
    rw [List.cons_append, begG, beg_skip w x q b t (fun s hs => h s (by simp [hs])), optB_cons, decide_eq_false (fun e => h s (by simp) e.symm)]
    simp [Bool.and_assoc]
theorem beg_on (w : Bool) (x : Ph) (q : List Ph) (s : Sg) (t : List Sg) (m : Int) (e : s.n = x.n) (h : ∀ y ∈ t, y.n ≠ x.n) : begG w (s :: t) (x :: q) m = (decide (m < s.k) && begG w (s :: t) q (m + 1)) := by
  rw [begG, beg_nom w x q t h, decide_eq_true e.symm]
  simp
theorem beg_nil (s : Sg) (t : List Sg) (m : Int) : begG true (s :: t) [] m = ((decide (m > 0) || s.o) && begG true t [] 0) := by
  rw [begG]; simp
theorem beg_opt : ∀ rs : List Sg, begG true rs [] 0 = optB rs
  | [] => by rw [begG]; rfl
  | s :: t => by rw [beg_nil, beg_opt t, optB_cons]; simp
/-- From where the walk is: before all stages, or at one that was met so often. -/
def begB (r : List Sg) (w : Bool) (at_ m : Int) (q : List Ph) : Bool := if at_ < 0 then begG w r q 0 else begG w (r.drop at_.toNat) q m
structure WalkOk (r : List Sg) (at_ m : Int) : Prop where
  lo : -1 ≤ at_
  hi : at_ < r.length
  mm : 0 ≤ at_ → 1 ≤ m
def Dis (r : List Sg) : Prop := ∀ i j : Nat, i < j → j < r.length → (r.getD i default).n ≠ (r.getD j default).n
theorem dis_of {r : List Sg} (h : dupB r r.length = false) : Dis r := by
  intro i j hij hj e
  have h1 : (r.take j).any (sameB (r.getD j default).n) = true := by
    rw [List.any_eq_true]
    refine ⟨r.getD i default, ?_, by unfold sameB; exact decide_eq_true e⟩
    have e2 : r.getD i default = (r.take j).getD i default := by
      rw [List.getD_eq_getElem?_getD, List.getD_eq_getElem?_getD, List.getElem?_take_of_lt hij]
    rw [e2]
    exact getD_mem _ _ (by rw [List.length_take]; omega)
  rw [dupB_true h1 r.length hj] at h
  cases h
theorem dis_drop {r : List Sg} (hd : Dis r) (k : Nat) (hk : k < r.length) (y : Sg) (hy : y ∈ r.drop (k + 1)) : y.n ≠ (r.getD k default).n := by
  obtain ⟨j, hj, e⟩ := List.mem_iff_getElem.1 hy
  rw [List.length_drop] at hj
  have := hd k (k + 1 + j) (by omega) (by omega)
  rw [List.getElem_drop] at e
  have e2 : r.getD (k + 1 + j) default = r[k + 1 + j]'(by omega) := by rw [List.getD_eq_getElem?_getD, List.getElem?_eq_getElem (by omega)]; rfl
  rw [e2, e] at this
  exact fun h => this h.symm
theorem any_k {r : List Sg} (h : r.any badS = false) (i : Nat) (hi : i < r.length) : 1 ≤ (r.getD i default).k := by
  have := List.any_eq_false.1 h _ (getD_mem r i hi)
  unfold badS at this
  rw [decide_eq_true_eq] at this
  omega
theorem take_ne {r : List Sg} {k a : Nat} {n : Int} (h : ∀ j : Nat, j < k → (r.getD j default).n ≠ n) (hk : k ≤ r.length) : ∀ s ∈ (r.take k).drop a, s.n ≠ n := by
  intro s hs
  obtain ⟨j, hj, e⟩ := List.mem_iff_getElem.1 (List.mem_of_mem_drop hs)
  rw [List.length_take] at hj
  rw [List.getElem_take] at e
  have := h j (by omega)
  rw [List.getD_eq_getElem?_getD, List.getElem?_eq_getElem (by omega)] at this
  rw [← e]
  exact this
theorem split_at (r : List Sg) (a k : Nat) (hak : a ≤ k) (hk : k < r.length) : r.drop a = (r.take k).drop a ++ (r.getD k default :: r.drop (k + 1)) := by
  rw [← drop_cons r k hk]
  have : r.drop a = (r.take k ++ r.drop k).drop a := by rw [List.take_append_drop]
  rw [this, List.drop_append_of_le_length (by rw [List.length_take]; omega)]
theorem walk_step {r : List Sg} (hd : Dis r) (hk : r.any badS = false) (len at_ m i : Int) (hw : WalkOk r at_ m) (x : Ph) (q : List Ph) :
    (∃ a' m', WalkOk r a' m' ∧ flGo r len at_ m i (x :: q) = flGo r len a' m' (i + 1) q ∧ ∀ w q', begB r w at_ m (x :: q') = begB r w a' m' q') ∨ (flGo r len at_ m i (x :: q) = (false, i) ∧ ∀ w q', begB r w at_ m (x :: q') = false) := by
  obtain ⟨w1, w2, w3⟩ := hw
  rw [flGo]
  by_cases c1 : 0 ≤ at_ ∧ (r.getD at_.toNat default).n = x.n
  · rw [if_pos c1]
    have hb : ∀ w q', begB r w at_ m (x :: q') = (decide (m < (r.getD at_.toNat default).k) && begG w (r.drop at_.toNat) q' (m + 1)) := fun w q' => by
      unfold begB
      rw [if_neg (by omega), drop_cons r at_.toNat (by omega), beg_on w x q' _ _ m c1.2 (fun y hy => by rw [← c1.2]; exact dis_drop hd _ (by omega) y hy)]
    by_cases c2 : m + 1 > (r.getD at_.toNat default).k
    · rw [if_pos c2]
      refine .inr ⟨rfl, fun w q' => ?_⟩
      rw [hb, decide_eq_false (by omega), Bool.false_and]
    · rw [if_neg c2]
      refine .inl ⟨at_, m + 1, ⟨w1, w2, fun h => by have := w3 h; omega⟩, rfl, fun w q' => ?_⟩
      rw [hb, decide_eq_true (by omega), Bool.true_and]
      unfold begB
      rw [if_neg (by omega)]
  · rw [if_neg c1]
    have hb : ∀ w q', begB r w at_ m (x :: q') = begG w (r.drop (at_ + 1).toNat) (x :: q') 0 := fun w q' => by
      unfold begB
      by_cases ca : at_ < 0
      · have e : at_ = -1 := by omega
        subst e
        rw [if_pos ca]; rfl
      · have e : (at_ + 1).toNat = at_.toNat + 1 := by omega
        have := w3 (by omega)
        rw [if_neg ca, e, drop_cons r at_.toNat (by omega), begG, decide_eq_false (fun h => c1 ⟨by omega, h.symm⟩), decide_eq_true (show m > 0 by omega)]
        simp
    have hsp := idxG_spec (sameB x.n) r 0 (by omega)
    generalize idxG (sameB x.n) 0 r = k at *
    rcases hsp with ⟨h1, h2⟩ | ⟨h1, h2, h3, h4⟩
    · rw [if_pos (.inl (by omega))]
      refine .inr ⟨rfl, fun w q' => ?_⟩
      rw [hb]
      refine beg_nom w x q' _ (fun s hs e => ?_)
      have := h2 s (List.mem_of_mem_drop hs)
      unfold sameB at this
      rw [decide_eq_false_iff_not] at this
      exact this e
    · rw [show (k - 0).toNat = k.toNat by omega] at h3
      have h5 : (r.getD k.toNat default).n = x.n := by unfold sameB at h3; exact of_decide_eq_true h3
      have h6 : ∀ j : Nat, j < k.toNat → (r.getD j default).n ≠ x.n := fun j hj e => by
        have := h4 j (by omega)
        unfold sameB at this
        rw [decide_eq_false_iff_not] at this
        exact this e
      by_cases c2 : k ≤ at_
      · rw [if_pos (.inl c2)]
        refine .inr ⟨rfl, fun w q' => ?_⟩
        rw [hb]
        refine beg_nom w x q' _ (fun s hs e => ?_)
        have e1 : (at_ + 1).toNat = (k.toNat + 1) + (at_.toNat - k.toNat) := by omega
        rw [e1, ← List.drop_drop] at hs
        exact dis_drop hd k.toNat (by omega) s (List.mem_of_mem_drop hs) (by rw [h5]; exact e)
      · have es : ∀ w q', begG w (r.drop (at_ + 1).toNat) (x :: q') 0 = (optB ((r.take k.toNat).drop (at_ + 1).toNat) && begG w (r.drop k.toNat) q' 1) := fun w q' => by
          rw [split_at r (at_ + 1).toNat k.toNat (by omega) (by omega), beg_skip w x q' _ _ (take_ne h6 (by omega)), beg_on w x q' _ _ 0 h5 (fun y hy => by rw [← h5]; exact dis_drop hd _ (by omega) y hy), ← drop_cons r k.toNat (by omega), decide_eq_true (show (0 : Int) < (r.getD k.toNat default).k by have := any_k hk k.toNat (by omega); omega)]
          simp
        cases ho : optB ((r.take k.toNat).drop (at_ + 1).toNat) with
        | false =>
          rw [if_pos (Or.inr rfl)]
          refine .inr ⟨rfl, fun w q' => ?_⟩
          rw [hb, es, ho, Bool.false_and]
        | true =>
          rw [if_neg (by rintro (h | h); exact c2 h; cases h)]
          refine .inl ⟨k, 1, ⟨by omega, by omega, fun _ => by omega⟩, rfl, fun w q' => ?_⟩
          rw [hb, es, ho, Bool.true_and]
          unfold begB
          rw [if_neg (by omega)]
theorem walk_all {r : List Sg} (hd : Dis r) (hk : r.any badS = false) : ∀ (q : List Ph) (at_ m i : Int), WalkOk r at_ m →
    ((flGo r (i + q.length) at_ m i q).1 = true → (flGo r (i + q.length) at_ m i q).2 = 0 ∧ begB r true at_ m q = true) ∧
    ((flGo r (i + q.length) at_ m i q).1 = false → begB r true at_ m q = false ∧ i ≤ (flGo r (i + q.length) at_ m i q).2 ∧ (flGo r (i + q.length) at_ m i q).2 ≤ i + q.length ∧
      (∀ j : Nat, i + j < (flGo r (i + q.length) at_ m i q).2 → begB r false at_ m (q.take (j + 1)) = true) ∧
      (∀ j : Nat, j < q.length → i + j = (flGo r (i + q.length) at_ m i q).2 → begB r false at_ m (q.take (j + 1)) = false))
  | [], at_, m, i, hw => by
    obtain ⟨w1, w2, w3⟩ := hw
    have hb : begB r true at_ m [] = optB (r.drop (at_ + 1).toNat) := by
      unfold begB
      by_cases ca : at_ < 0
      · have e : at_ = -1 := by omega
        subst e
        rw [if_pos ca, beg_opt]; rfl
      · have e : (at_ + 1).toNat = at_.toNat + 1 := by omega
        have := w3 (by omega)
        rw [if_neg ca, e, drop_cons r at_.toNat (by omega), beg_nil, beg_opt, decide_eq_true (show m > 0 by omega)]
        simp
    rw [flGo, hb]
    cases ho : optB (r.drop (at_ + 1).toNat) with
    | true => rw [if_pos rfl]; exact ⟨fun _ => ⟨rfl, rfl⟩, fun h => (by cases h)⟩
    | false =>
      rw [if_neg (by simp)]
      refine ⟨fun h => (by cases h), fun _ => ⟨rfl, by simp, by simp, fun j hj => ?_, fun j hj => ?_⟩⟩
      · simp at hj
        omega
      · simp at hj
  | x :: q, at_, m, i, hw => by
    have el : i + ((x :: q).length : Int) = i + 1 + q.length := by rw [List.length_cons]; omega
    rw [el]
    rcases walk_step hd hk (i + 1 + q.length) at_ m i hw x q with ⟨a', m', h1, h2, h3⟩ | ⟨h2, h3⟩
    · have ih := walk_all hd hk q a' m' (i + 1) h1
      rw [h2, h3]
      generalize flGo r (i + 1 + q.length) a' m' (i + 1) q = X at *
      refine ⟨ih.1, fun hX => ?_⟩
      obtain ⟨i1, i2, i3, i4, i5⟩ := ih.2 hX
      refine ⟨i1, by omega, by omega, fun j hj => ?_, fun j hj hj2 => ?_⟩
      · rw [List.take_succ_cons, h3]
        cases j with
        | zero => rw [List.take_zero]; unfold begB; split <;> exact begG_f _ _
        | succ j => exact i4 j (by omega)
      · rw [List.take_succ_cons, h3]
        cases j with
        | zero => omega
        | succ j => exact i5 j (by simp at hj; omega) (by omega)
    · rw [h2, h3]
      refine ⟨fun h => (by cases h), fun _ => ⟨rfl, by simp, by simp only; omega, fun j hj => ?_, fun j hj hj2 => ?_⟩⟩
      · simp only at hj; omega
      · rw [List.take_succ_cons, h3]
/-- What the search says: the answer, and the first phase behind which there is no way. -/
theorem follows_is {r : List Sg} (h : rcF r = 0) (p : List Ph) :
    (begG true r p 0 = true → flGo r p.length (-1) 0 0 p = (true, 0)) ∧
    (begG true r p 0 = false → (∀ i : Nat, i < p.length → (∀ j : Nat, j < i → begG false r (p.take (j + 1)) 0 = true) → begG false r (p.take (i + 1)) 0 = false → flGo r p.length (-1) 0 0 p = (false, (i : Int))) ∧ ((∀ j : Nat, j < p.length → begG false r (p.take (j + 1)) 0 = true) → flGo r p.length (-1) 0 0 p = (false, (p.length : Int)))) := by
  have hb : r.any badS = false ∧ dupB r r.length = false ∧ 1 ≤ r.length := by
    unfold rcF at h
    split at h
    · omega
    · split at h
      · omega
      · split at h
        · omega
        · split at h
          · omega
          · rename_i h1 h2 h3 h4
            exact ⟨by simpa using h3, by simpa using h4, by omega⟩
  have hw := walk_all (dis_of hb.2.1) hb.1 p (-1) 0 0 ⟨by omega, by omega, fun h => by omega⟩
  rw [Int.zero_add] at hw
  have eb : ∀ w q, begB r w (-1) 0 q = begG w r q 0 := fun w q => by unfold begB; rw [if_pos (by omega)]
  simp only [eb, Int.zero_add] at hw
  generalize flGo r p.length (-1) 0 0 p = X at *
  obtain ⟨b, n⟩ := X
  simp only at hw
  obtain ⟨a1, a2⟩ := hw
  refine ⟨fun ht => ?_, fun hf => ⟨fun i hi hj hn => ?_, fun hj => ?_⟩⟩
  · cases b with
    | true => rw [(a1 rfl).1]
    | false => rw [(a2 rfl).1] at ht; cases ht
  · cases b with
    | true => rw [(a1 rfl).2] at hf; cases hf
    | false =>
      obtain ⟨_, b1, b2, b3, b4⟩ := a2 rfl
      have c1 : ¬n < i := fun hc => by
        have := b4 n.toNat (by omega) (by omega)
        rw [hj n.toNat (by omega)] at this
        cases this
      have c2 : ¬(i : Int) < n := fun hc => by
        have := b3 i hc
        rw [hn] at this
        cases this
      rw [show n = (i : Int) by omega]
  · cases b with
    | true => rw [(a1 rfl).2] at hf; cases hf
    | false =>
      obtain ⟨_, b1, b2, b3, b4⟩ := a2 rfl
      have c1 : ¬n < p.length := fun hc => by
        have := b4 n.toNat (by omega) (by omega)
        rw [hj n.toNat (by omega)] at this
        cases this
      rw [show n = (p.length : Int) by omega]
end Go.Proofs.Ytggbcgldnjmobaa

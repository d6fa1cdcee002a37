
/-
  MinimumOf: all subsets are tried.
-/
import Derived.Test.YtggbcgldnjmobaaMoa
import Derived.Test.YtggbcgldnjmobaaFto
namespace Go.Proofs.Ytggbcgldnjmobaa
open Go Go.Ai
set_option linter.unusedSimpArgs false
set_option linter.unusedVariables false
set_option maxHeartbeats 4000000
def A_minOf : List Ann := [⟨(some ⟨[1,2], [2], []⟩), [], [], [], []⟩, ⟨(some ⟨[1,2,5], [2], []⟩), [], [], [], []⟩, ⟨(some ⟨[1,2,5,11,12], [2], []⟩), [], [], [], []⟩, ⟨(some ⟨[1,2,5,11,12,13], [2], []⟩), [], [], [], []⟩, ⟨(some ⟨[1,2,5,6,11,12], [2], []⟩), [], [], [], []⟩, ⟨(some ⟨[1,2,5,6,7,11,12], [2], []⟩), [(7, 3, 1)], [], [], []⟩, ⟨(some ⟨[1,2,5,6,7,11,12,16,17], [2], [7]⟩), [], [], [], []⟩, ⟨(some ⟨[1,2,5,6,7,11,12,16,17,18], [2], [7]⟩), [], [], [], []⟩, ⟨(some ⟨[1,2,5,6,7,8,11,12,16,17], [2], [7]⟩), [], [], [], []⟩, ⟨(some ⟨[1,2,5,6,7,8,11,12,16,17,24], [2], [7]⟩), [], [], [], []⟩, ⟨(some ⟨[1,2,5,6,7,11,12,16,17], [2], [7]⟩), [], [], [], []⟩, ⟨(some ⟨[1,2,5,6,7,11,12,16,17], [2], [7]⟩), [], [], [], []⟩, ⟨(some ⟨[1,2,5,7,11,12,44], [2], []⟩), [], [], [], []⟩, ⟨(some ⟨[1,2,5,7,11,12,48], [2], []⟩), [], [], [], []⟩, ⟨(some ⟨[1,2,5,11,12], [2], []⟩), [], [], [], []⟩, ⟨(some ⟨[1,2,5,11,12], [2], []⟩), [], [], [], []⟩, ⟨(some ⟨[4], [], []⟩), [], [], [], []⟩]
def C_minOf : AC := (.seq (.reg false [⟨(some 2), none, .box (.t 0)⟩, ⟨(some 4), none, .mv (.v (.slice none 0 0))⟩] (some ⟨[1,2], [2], []⟩))
  (.seq (.reg false [⟨(some 5), none, .mv (.v (.slice none 0 0))⟩] (some ⟨[1,2,5], [2], []⟩))
  (.seq (.seq (.reg false [⟨(some 9), none, .mv (.t 1)⟩, ⟨(some 10), none, .len (.t 9)⟩, ⟨(some 11), none, .bin .shl (.v (.int .i64 (1))) (.t 10)⟩, ⟨(some 12), none, .mv (.v (.int .i64 (0)))⟩] (some ⟨[1,2,5,11,12], [2], []⟩))
  (.block 0 (.loop (.seq (.reg false [⟨(some 13), none, .bin .lss (.t 12) (.t 11)⟩] (some ⟨[1,2,5,11,12,13], [2], []⟩))
  (.seq (.cond (.t 13)
  .skip
  (.exit 0))
  (.seq (.block 1 (.seq (.reg false [⟨(some 14), none, .mv (.t 12)⟩, ⟨(some 6), none, .mv (.t 14)⟩] (some ⟨[1,2,5,6,11,12], [2], []⟩))
  (.seq (.seq (.reg false [⟨(some 7), none, .mv (.v (.slice none 0 0))⟩] (some ⟨[1,2,5,6,7,11,12], [2], []⟩))
  (.own 7 3 1))
  (.seq (.seq (.reg false [⟨(some 15), none, .mv (.t 1)⟩, ⟨(some 16), none, .len (.t 15)⟩, ⟨(some 17), none, .mv (.v (.int .i64 (0)))⟩] (some ⟨[1,2,5,6,7,11,12,16,17], [2], [7]⟩))
  (.block 2 (.loop (.seq (.reg false [⟨(some 18), none, .bin .lss (.t 17) (.t 16)⟩] (some ⟨[1,2,5,6,7,11,12,16,17,18], [2], [7]⟩))
  (.seq (.cond (.t 18)
  .skip
  (.exit 2))
  (.seq (.block 3 (.seq (.reg false [⟨(some 19), none, .mv (.t 17)⟩, ⟨(some 8), none, .mv (.t 19)⟩] (some ⟨[1,2,5,6,7,8,11,12,16,17], [2], [7]⟩))
  (.seq (.reg false [⟨(some 20), none, .mv (.t 6)⟩, ⟨(some 21), none, .mv (.t 8)⟩, ⟨(some 22), none, .bin .shr (.t 20) (.t 21)⟩, ⟨(some 23), none, .bin .rem (.t 22) (.v (.int .i64 (2)))⟩, ⟨(some 24), none, .bin .eql (.t 23) (.v (.int .i64 (1)))⟩] (some ⟨[1,2,5,6,7,8,11,12,16,17,24], [2], [7]⟩))
  (.cond (.t 24)
  (.reg false [⟨(some 25), none, .mv (.t 7)⟩, ⟨(some 26), none, .mv (.t 8)⟩, ⟨(some 27), none, .bslice 1 1 [(.t 26)]⟩, ⟨(some 28), none, .append 3 1 8 (.t 25) (.t 27)⟩, ⟨(some 7), none, .mv (.t 28)⟩] (some ⟨[1,2,5,6,7,11,12,16,17], [2], [7]⟩))
  .skip))))
  (.reg false [⟨(some 29), none, .bin .add (.t 17) (.v (.int .i64 (1)))⟩, ⟨(some 17), none, .mv (.t 29)⟩] (some ⟨[1,2,5,6,7,11,12,16,17], [2], [7]⟩))))))))
  (.seq (.seq (.reg false [⟨(some 30), none, .mv (.t 5)⟩, ⟨(some 31), none, .eqs true false [.ns] (.t 30) (.v (.slice none 0 0))⟩, ⟨(some 32), none, .mv (.t 31)⟩, ⟨(some 33), (some (32, true)), .mv (.t 7)⟩, ⟨(some 34), (some (32, true)), .len (.t 33)⟩, ⟨(some 35), (some (32, true)), .mv (.t 5)⟩, ⟨(some 36), (some (32, true)), .len (.t 35)⟩, ⟨(some 37), (some (32, true)), .call (.f 93) [(.t 34), (.t 36)]⟩, ⟨(some 38), (some (32, true)), .mv (.t 7)⟩, ⟨(some 39), (some (32, true)), .mv (.t 5)⟩, ⟨(some 40), (some (32, true)), .call (.f 94) [(.t 38), (.t 39)]⟩, ⟨(some 41), (some (32, true)), .bslice 1 2 [(.t 37), (.t 40)]⟩, ⟨(some 42), (some (32, true)), .call (.f 92) [(.t 41)]⟩, ⟨(some 43), (some (32, true)), .bin .geq (.t 42) (.v (.int .i64 (0)))⟩, ⟨(some 44), none, .pick (.t 32) (.t 43) (.v (.bool false))⟩] (some ⟨[1,2,5,7,11,12,44], [2], []⟩))
  (.cond (.t 44)
  (.exit 1)
  .skip))
  (.seq (.reg false [⟨(some 45), none, .load true 2 (.t 2)⟩, ⟨(some 46), none, .mv (.t 1)⟩, ⟨(some 47), none, .mv (.t 7)⟩, ⟨(some 48), none, .call (.f 36) [(.t 45), (.t 46), (.t 47)]⟩] (some ⟨[1,2,5,7,11,12,48], [2], []⟩))
  (.cond (.t 48)
  (.reg false [⟨(some 49), none, .mv (.t 7)⟩, ⟨(some 5), none, .mv (.t 49)⟩] (some ⟨[1,2,5,11,12], [2], []⟩))
  .skip)))))))
  (.reg false [⟨(some 50), none, .bin .add (.t 12) (.v (.int .i64 (1)))⟩, ⟨(some 12), none, .mv (.t 50)⟩] (some ⟨[1,2,5,11,12], [2], []⟩))))))))
  (.seq (.reg false [⟨(some 51), none, .mv (.t 5)⟩, ⟨(some 4), none, .mv (.t 51)⟩] (some ⟨[4], [], []⟩))
  .ret))))
theorem c_minOf : compileCode Try.prog Try.f37.ntmps (Try.f37.body.getD .skip) A_minOf = some (C_minOf, []) := by kernel_rfl
theorem r_minOf : compileRes Try.prog Try.f37.results.toList = some [.t 4] := by kernel_rfl
theorem b_minOf : Try.f37.body = some (Try.f37.body.getD .skip) := by kernel_rfl
theorem n_minOf : (Try.f37.name == "runtime.NumGoroutine") = false := by kernel_rfl
theorem fc_minOf {xt : Option (List Cel)} {args : List Val} {R : List Cel → Val → Prop} (hn : (if xt.isSome then 1 else 0) + args.length ≤ Try.f37.ntmps) (h : ex Try.prog C_minOf [] (fpost xt [.t 4] R) (initSt xt args)) : FC Try.prog 37 xt args R :=
  fc_of_awp Try.func37 b_minOf n_minOf c_minOf r_minOf (of_decide_eq_true (by kernel_rfl)) hn h
theorem fcm_minOf {H : Hp} {K : Keep} {args : List Val} {R : Hp → Val → Prop} (hn : args.length ≤ Try.f37.ntmps) (hkb : ∀ p ∈ H.bs, p.1 = 0 ∨ XK ≤ p.1) (hkr : ∀ p ∈ H.rs, XK ≤ p.1) (h : ex Try.prog C_minOf [] (mpost H K [.t 4] R) (initM H args)) : FCM Try.prog 37 H args R :=
  fcm_of_awp Try.func37 b_minOf n_minOf c_minOf r_minOf (of_decide_eq_true (by kernel_rfl)) hn hkb hkr h
theorem fcms_minOf {S : List Nat} {H : Hp} {K : Keep} {args : List Val} {R : Hp → Val → Prop} (hn : args.length ≤ Try.f37.ntmps) (hkb : ∀ p ∈ H.bs, p.1 = 0 ∨ XK ≤ p.1) (hkr : ∀ p ∈ H.rs, XK ≤ p.1) (h : ex Try.prog C_minOf [] (mpostS S H K [.t 4] R) (initM H args))   : FCMS Try.prog 37 S H args R :=
  fcms_of_awp Try.func37 b_minOf n_minOf c_minOf r_minOf (of_decide_eq_true (by kernel_rfl)) hn hkb hkr h


/-- The places whose bits are set. -/
def sub (s : Nat) : Nat → List Int
  | 0 => []
  | n + 1 => sub s n ++ (if s.testBit n = true then [(n : Int)] else [])
theorem sub_len (s : Nat) : ∀ n, (sub s n).length ≤ n
  | 0 => Nat.le_refl _
  | n + 1 => by
    have := sub_len s n
    rw [sub, List.length_append]; split <;> simp <;> omega
theorem sub_mem (s : Nat) : ∀ n, ∀ k ∈ sub s n, 0 ≤ k ∧ k < n
  | 0, k, h => by simp [sub] at h
  | n + 1, k, h => by
    rw [sub, List.mem_append] at h
    rcases h with h | h
    · have := sub_mem s n k h; omega
    · split at h
      · simp only [List.mem_singleton] at h; omega
      · simp at h
theorem sub_asc (s : Nat) : ∀ n, (sub s n).Pairwise (· < ·)
  | 0 => by simp [sub]
  | n + 1 => by
    rw [sub]
    refine List.pairwise_append.2 ⟨sub_asc s n, by split <;> simp, fun a ha b hb => ?_⟩
    have := sub_mem s n a ha
    split at hb
    · simp only [List.mem_singleton] at hb; omega
    · simp at hb
theorem sub_low {s t : Nat} : ∀ n, (∀ i, i < n → s.testBit i = t.testBit i) → sub s n = sub t n
  | 0, _ => rfl
  | n + 1, h => by
    rw [sub, sub, sub_low n (fun i hi => h i (by omega)), h n (by omega)]
/-- Every list of places in order is one of them. -/
theorem sub_all : ∀ (n : Nat) (m : List Int), m.Pairwise (· < ·) → (∀ k ∈ m, 0 ≤ k ∧ k < n) → ∃ s, s < 2 ^ n ∧ sub s n = m
  | 0, m, _, h => by
    cases m with
    | nil => exact ⟨0, by simp, rfl⟩
    | cons a r => have := h a (by simp); omega
  | n + 1, m, ha, h => by
    have e2 : 2 ^ (n + 1) = 2 ^ n + 2 ^ n := by rw [Nat.pow_succ]; omega
    by_cases hm : ∃ r, m = r ++ [(n : Int)]
    · obtain ⟨r, rfl⟩ := hm
      obtain ⟨p1, _, p3⟩ := List.pairwise_append.1 ha
      obtain ⟨s, s1, s2⟩ := sub_all n r p1 (fun k hk => ⟨(h k (by simp [hk])).1, p3 k hk n (by simp)⟩)
      have b1 : (2 ^ n + s).testBit n = true := by rw [Nat.testBit_two_pow_add_eq, Nat.testBit_lt_two_pow s1]; rfl
      refine ⟨2 ^ n + s, by omega, ?_⟩
      rw [sub, if_pos b1, sub_low n (fun i hi => Nat.testBit_two_pow_add_gt hi s), s2]
    · have hl : ∀ k ∈ m, 0 ≤ k ∧ k < n := fun k hk => by
        have h1 := h k hk
        by_cases e : k = n
        · subst e
          exfalso
          obtain ⟨j, hj, e⟩ := List.mem_iff_getElem.1 hk
          have hlast : j = m.length - 1 := by
            rcases Nat.lt_or_ge j (m.length - 1) with c | c
            · have c1 := List.pairwise_iff_getElem.1 ha j (m.length - 1) hj (by omega) c
              have c2 := h (m[m.length - 1]'(by omega)) (List.getElem_mem _)
              omega
            · omega
          refine hm ⟨m.dropLast, ?_⟩
          have h0 : m ≠ [] := List.ne_nil_of_mem hk
          have e3 : m.getLast h0 = (n : Int) := by
            rw [List.getLast_eq_getElem, ← e]; simp only [hlast]
          rw [← e3, List.dropLast_concat_getLast h0]
        · omega
      obtain ⟨s, s1, s2⟩ := sub_all n m ha hl
      refine ⟨s, by omega, ?_⟩
      rw [sub, if_neg (by rw [Nat.testBit_lt_two_pow s1]; simp), List.append_nil, s2]
theorem sub_kpt {l : List Smp} (hs : serFault l = 0) (s : Nat) : kptF l (sub s l.length) = 0 := by
  have go : ∀ (m : List Int) (p : Option Int), m.Pairwise (· < ·) → (∀ k ∈ m, 0 ≤ k ∧ k < (l.length : Int)) → (∀ y, p = some y → ∀ k ∈ m, y < k) → kfGo l.length p m = 0 := by
    intro m
    induction m with
    | nil => intro p _ _ _; rfl
    | cons x r ih =>
      intro p h hr hp
      obtain ⟨h1, h2⟩ := List.pairwise_cons.1 h
      have hx := hr x (by simp)
      rw [kfGo, if_neg (by omega), if_neg]
      · exact ih (some x) h2 (fun k hk => hr k (by simp [hk])) (fun y hy k hk => by cases hy; exact h1 k hk)
      · cases p with
        | none => simp [leO]
        | some y => have := hp y rfl x (by simp); simp [leO]; omega
  have := sub_len s l.length
  unfold kptF
  rw [if_neg (by omega), if_neg (by omega)]
  exact go _ none (sub_asc s _) (sub_mem s _) (fun y hy => by cases hy)
/-- Not behind the other: shorter, or as long and not behind it in order. -/
def LE (b c : List Int) : Prop := b.length < c.length ∨ (b.length = c.length ∧ lexLe b c)
theorem lex_refl : ∀ b : List Int, lexLe b b
  | [] => trivial
  | _ :: r => .inr ⟨rfl, lex_refl r⟩
theorem lex_trans : ∀ {a b c : List Int}, lexLe a b → lexLe b c → lexLe a c
  | [], [], [], _, _ => trivial
  | [], [], _ :: _, _, h => h.elim
  | [], _ :: _, _, h, _ => h.elim
  | _ :: _, [], _, h, _ => h.elim
  | _ :: _, _ :: _, [], _, h => h.elim
  | x :: a, y :: b, z :: c, h1, h2 => by
    rcases h1 with h1 | ⟨h1, h3⟩ <;> rcases h2 with h2 | ⟨h2, h4⟩
    · exact .inl (by omega)
    · exact .inl (by omega)
    · exact .inl (by omega)
    · exact .inr ⟨by omega, lex_trans h3 h4⟩
theorem LE_trans {a b c : List Int} (h1 : LE a b) (h2 : LE b c) : LE a c := by
  rcases h1 with h1 | ⟨h1, h3⟩ <;> rcases h2 with h2 | ⟨h2, h4⟩
  · exact .inl (by omega)
  · exact .inl (by omega)
  · exact .inl (by omega)
  · exact .inr ⟨by omega, lex_trans h3 h4⟩
theorem cmp_lex : ∀ {a b : List Int}, a.length = b.length → (cmpS a b ≤ 0 → lexLe a b) ∧ (0 ≤ cmpS a b → lexLe b a)
  | [], [], _ => ⟨fun _ => trivial, fun _ => trivial⟩
  | [], _ :: _, h => by simp at h
  | _ :: _, [], h => by simp at h
  | x :: a, y :: b, h => by
    have ih := cmp_lex (a := a) (b := b) (by simpa using h)
    rw [cmpS]
    rcases sd_cases y x with ⟨h1, h2⟩ | ⟨h1, h2⟩ | ⟨h1, h2⟩
    · rw [h2]; exact ⟨fun _ => .inl h1, fun h => by simp at h⟩
    · rw [h2]; exact ⟨fun h => by simp at h, fun _ => .inl h1⟩
    · rw [h2, if_neg (by simp)]; exact ⟨fun h => .inr ⟨h1, ih.1 h⟩, fun h => .inr ⟨h1.symm, ih.2 h⟩⟩
theorem or_LE {a b : List Int} : (0 ≤ orSp [sd b.length a.length, cmpS a b] → LE b a) ∧ (¬0 ≤ orSp [sd b.length a.length, cmpS a b] → LE a b) := by
  have e : orSp [sd b.length a.length, cmpS a b] = if sd (b.length : Int) a.length ≠ 0 then sd (b.length : Int) a.length else cmpS a b := by
    unfold orSp
    split
    · rfl
    · unfold orSp
      split
      · rfl
      · rename_i h; simp only [orSp]; omega
  rw [e]
  rcases sd_cases (b.length : Int) a.length with ⟨h1, h2⟩ | ⟨h1, h2⟩ | ⟨h1, h2⟩
  · rw [h2]; exact ⟨fun h => by simp at h, fun _ => .inl (by omega)⟩
  · rw [h2]; exact ⟨fun _ => .inl (by omega), fun h => by simp at h⟩
  · rw [h2, if_neg (by simp)]
    obtain ⟨c1, c2⟩ := cmp_lex (a := a) (b := b) (by omega)
    exact ⟨fun h => .inr ⟨by omega, c2 h⟩, fun h => .inr ⟨by omega, c1 (by omega)⟩⟩
/-- The best of the first s subsets that fit. -/
structure Bst (dv mg : Int) (l : List Smp) (s : Nat) (best : Option (List Int)) : Prop where
  is_ : ∀ b, best = some b → (∃ t, t < s ∧ b = sub t l.length) ∧ fitB dv mg l b = true
  le : ∀ t, t < s → fitB dv mg l (sub t l.length) = true → ∃ b, best = some b ∧ LE b (sub t l.length)
theorem Bst.skip {dv mg : Int} {l : List Smp} {s : Nat} {best : Option (List Int)} (h : Bst dv mg l s best) (hn : fitB dv mg l (sub s l.length) = true → ∃ b, best = some b ∧ LE b (sub s l.length)) : Bst dv mg l (s + 1) best :=
  ⟨fun b hb => by
    obtain ⟨⟨t, t1, t2⟩, h2⟩ := h.is_ b hb
    exact ⟨⟨t, by omega, t2⟩, h2⟩, fun t ht hf => by
    by_cases e : t = s
    · subst e; exact hn hf
    · exact h.le t (by omega) hf⟩
theorem Bst.take {dv mg : Int} {l : List Smp} {s : Nat} {best : Option (List Int)} (h : Bst dv mg l s best) (hf : fitB dv mg l (sub s l.length) = true) (hn : ∀ b, best = some b → LE (sub s l.length) b) : Bst dv mg l (s + 1) (some (sub s l.length)) :=
  ⟨fun b hb => by
    injection hb with hb; subst hb
    exact ⟨⟨s, by omega, rfl⟩, hf⟩, fun t ht hft => by
    by_cases e : t = s
    · subst e; exact ⟨_, rfl, .inr ⟨rfl, lex_refl _⟩⟩
    · obtain ⟨b, hb, hle⟩ := h.le t (by omega) hft
      exact ⟨_, rfl, LE_trans (hn b hb) hle⟩⟩
/-- In the end it is the minimum. -/
theorem Bst.min {dv mg : Int} {l : List Smp} (hs : serFault l = 0) {best : Option (List Int)} (h : Bst dv mg l (2 ^ l.length) best) {m : List Int} (hm : MinP dv mg l m) : best = some m := by
  have hfm : fitB dv mg l m = true ∧ m.Pairwise (· < ·) ∧ ∀ k ∈ m, 0 ≤ k ∧ k < (l.length : Int) := by
    unfold MinP at hm
    by_cases h0 : l.length = 0
    · rw [if_pos h0] at hm
      subst hm
      refine ⟨by unfold fitB; rw [if_pos h0], by simp, by simp⟩
    · rw [if_neg h0] at hm
      obtain ⟨nf, ff, r, rfl, h1, h2⟩ := hm
      have hc := (h1.path r 0 (by omega) (by omega) h2).1
      obtain ⟨k1, k2⟩ := chn_fit hs h0 hc
      refine ⟨k2, List.pairwise_iff_getElem.2 fun i j hi hj hij => ?_, (fun k hk => by
        obtain ⟨j, hj, rfl⟩ := List.mem_iff_getElem.1 hk
        have := kpt_rng k1 j hj
        rw [List.getD_eq_getElem?_getD, List.getElem?_eq_getElem hj] at this
        exact this)⟩
      have := kpt_asc k1 i j hij hj
      rw [List.getD_eq_getElem?_getD, List.getD_eq_getElem?_getD, List.getElem?_eq_getElem hi, List.getElem?_eq_getElem hj] at this
      exact this
  obtain ⟨s, s1, s2⟩ := sub_all l.length m hfm.2.1 hfm.2.2
  obtain ⟨b, hb, hle⟩ := h.le s s1 (by rw [s2]; exact hfm.1)
  rw [s2] at hle
  obtain ⟨⟨t, t1, t2⟩, hfb⟩ := h.is_ b hb
  have hkb : kptF l b = 0 := by rw [t2]; exact sub_kpt hs t
  rw [hb]
  congr 1
  unfold MinP at hm
  by_cases h0 : l.length = 0
  · rw [if_pos h0] at hm
    subst hm
    rcases hle with hle | ⟨hle, _⟩
    · simp at hle
    · exact List.length_eq_zero_iff.1 hle
  · rw [if_neg h0] at hm
    obtain ⟨nf, ff, r, rfl, h1, h2⟩ := hm
    obtain ⟨q, rfl, hq⟩ := fit_chn h0 hkb hfb
    have l1 := h1.least q 0 (by omega) (by omega) hq
    have l2 := (h1.path r 0 (by omega) (by omega) h2).2
    rcases hle with hle | ⟨hle, hlx⟩
    · simp only [List.length_cons] at hle; omega
    · simp only [List.length_cons, Nat.add_right_cancel_iff] at hle
      have h3 := h1.first r q 0 (by omega) (by omega) h2 hq hle.symm
      exact lex_anti hlx (.inr ⟨rfl, h3⟩)
def bestC : Option (List Int) → Cel
  | none => .g (.slice none 0 0)
  | some b => .sl true 1 (b.map intC)
theorem bestC_none : bestC none = .g (.slice none 0 0) := rfl
theorem bestC_some (b : List Int) : bestC (some b) = .sl true 1 (b.map intC) := rfl
theorem bestC_ren {s : AS} {K : Kp} (b : Option (List Int)) : s.renC K (bestC b) = bestC b := by cases b <;> rfl
attribute [go_sem] bestC_ren
def moSt (dv mg : Int) (l : List Smp) (T s : Int) (best : Option (List Int)) : AS := ⟨tabV [(1, smps false l), (2, .one (.bx 2 0)), (5, .one (bestC best)), (11, iv T), (12, iv s)], tabO [(2, [.g (.int .i64 dv), .g (.int .i64 mg)])], tabO []⟩
def moiSt (dv mg : Int) (l : List Smp) (T s : Int) (best : Option (List Int)) (i : Int) (out : List Int) : AS := ⟨tabV [(1, smps false l), (2, .one (.bx 2 0)), (5, .one (bestC best)), (6, iv s), (7, .one (.ow 7 0)), (11, iv T), (12, iv s), (16, iv l.length), (17, iv i)], tabO [(2, [.g (.int .i64 dv), .g (.int .i64 mg)])], tabO [(7, iRow out)]⟩
theorem pow_wrap {n : Nat} (h : n ≤ 9) : IntKind.i64.wrap (1 * 2 ^ min n 64) = ((2 ^ n : Nat) : Int) ∧ 2 ^ n ≤ 512 ∧ 1 ≤ 2 ^ n := by
  have hp : 2 ^ n ≤ 2 ^ 9 := Nat.pow_le_pow_right (by omega) h
  have h1 : 1 ≤ 2 ^ n := Nat.one_le_two_pow
  have e : (1 : Int) * 2 ^ min n 64 = ((2 ^ n : Nat) : Int) := by
    rw [Nat.min_eq_left (by omega), Int.one_mul, Int.natCast_pow]; rfl
  have hp2 : 2 ^ n ≤ 512 := hp
  rw [e]
  generalize 2 ^ n = T at *
  exact ⟨wrap_i64 _ (by omega) (by omega), hp2, h1⟩
theorem bit_iff {s i : Int} (h0 : 0 ≤ s) (h1 : i ≤ 9) : (s.fdiv (2 ^ min i.toNat 64)).tmod 2 = 1 ↔ s.toNat.testBit i.toNat = true := by
  obtain ⟨S, rfl⟩ := Int.eq_ofNat_of_zero_le h0
  rw [Nat.min_eq_left (by omega), Nat.testBit_eq_decide_div_mod_eq, decide_eq_true_eq, Int.toNat_natCast]
  have e : ((S : Nat) : Int).fdiv (2 ^ i.toNat) = ((S / 2 ^ i.toNat : Nat) : Int) := by
    have e2 : (2 : Int) ^ i.toNat = ((2 ^ i.toNat : Nat) : Int) := by rw [Int.natCast_pow]; rfl
    rw [e2, Int.fdiv_eq_ediv_of_nonneg _ (Int.natCast_nonneg _)]; rfl
  rw [e, Int.tmod_eq_emod_of_nonneg (Int.natCast_nonneg _)]
  generalize S / 2 ^ i.toNat = x
  omega
set_option maxHeartbeats 12000000 in
set_option maxRecDepth 8000 in
theorem minOf_fc (dv mg : Int) (hd : 0 ≤ dv ∧ dv ≤ 2000000) (hmg : 1 ≤ mg ∧ mg ≤ 345686400000) (l : List Smp) (hs : serFault l = 0) (hl : l.length ≤ 9) (m : List Int) (hm : MinP dv mg l m) : FC Try.prog 37 none [twoV dv mg, smps false l] (fun _ r => r = ints true m) := by
  refine fc_minOf (by simp +arith) ?_
  obtain ⟨hpw, hT2, hT1⟩ := pow_wrap hl
  unfold C_minOf
  simp (maxSteps := 1000000) (disch := omega) only [go_sem, eq_self, decide_true, decide_false, not_true_eq_false, not_false_eq_true, reduceIte, reduceCtorEq, Nat.reduceEqDiff, Nat.reduceAdd, Nat.reduceSub, Nat.reduceLeDiff]
  rw [hpw]
  generalize hT : 2 ^ l.length = T at *
  refine ex_loop2 (moSt dv mg l T) (fun s best => 0 ≤ s ∧ s ≤ T ∧ Bst dv mg l s.toNat best) (fun s _ => ((T : Int) - s).toNat) 0 none ⟨by omega, by omega, ⟨fun b hb => (by cases hb), fun t ht => absurd ht (by simp)⟩⟩ rfl ?_
  rintro s best ⟨g1, g2, g3⟩
  unfold moSt
  by_cases hi : s < T
  · have e9 : (s + 1).toNat = s.toNat + 1 := by omega
    simp (maxSteps := 1000000) (disch := omega) only [go_sem, eq_self, decide_true, decide_false, not_true_eq_false, not_false_eq_true, reduceIte, reduceCtorEq, Nat.reduceEqDiff, Nat.reduceAdd, Nat.reduceSub, Nat.reduceLeDiff]
    refine ex_loop1 (fun i => moiSt dv mg l T s best i (sub s.toNat i.toNat)) (fun i => 0 ≤ i ∧ i ≤ l.length) (fun i => (l.length - i).toNat) 0 ⟨by omega, by omega⟩ rfl ?_
    rintro i ⟨h1, h2⟩
    unfold moiSt
    have hsl := sub_len s.toNat i.toNat
    by_cases hj : i < l.length
    · have e2 : (i + 1).toNat = i.toNat + 1 := by omega
      have hb := bit_iff (s := s) (i := i) g1 (by omega)
      have e3 : sub s.toNat (i + 1).toNat = sub s.toNat i.toNat ++ (if s.toNat.testBit i.toNat = true then [i] else []) := by rw [e2, sub, show ((i.toNat : Nat) : Int) = i by omega]
      simp (maxSteps := 1000000) (disch := omega) only [go_sem, eq_self, decide_true, decide_false, not_true_eq_false, not_false_eq_true, reduceIte, reduceCtorEq, Nat.reduceEqDiff, Nat.reduceAdd, Nat.reduceSub, Nat.reduceLeDiff]
      refine ⟨fun h => ?_, fun h => ?_⟩
      · rw [if_pos (hb.1 h)] at e3
        exact ⟨i + 1, by simp only [e3, iRow, List.map_append, List.map_cons, List.map_nil, intC_eq], ⟨by omega, by omega⟩, by omega⟩
      · rw [if_neg (fun h' => h (hb.2 h')), List.append_nil] at e3
        exact ⟨i + 1, by simp only [e3], ⟨by omega, by omega⟩, by omega⟩
    · have hil : i.toNat = l.length := by omega
      rw [hil] at hsl ⊢
      have hfo := fitsOf_fc dv mg hd hmg l (sub s.toNat l.length) (sub_kpt hs s.toNat)
      cases best with
      | none =>
        rw [bestC_none]
        cases hb : fitB dv mg l (sub s.toNat l.length) with
        | true =>
          have q := g3.take hb (fun b hb => by cases hb)
          rw [hb] at hfo
          simp (maxSteps := 1000000) (disch := omega) only [go_sem, eq_self, decide_true, decide_false, not_true_eq_false, not_false_eq_true, reduceIte, reduceCtorEq, Nat.reduceEqDiff, Nat.reduceAdd, Nat.reduceSub, Nat.reduceLeDiff]
          refine CALL_det hfo (.inl rfl) ?_
          simp (maxSteps := 1000000) (disch := omega) only [go_sem, eq_self, decide_true, decide_false, not_true_eq_false, not_false_eq_true, reduceIte, reduceCtorEq, Nat.reduceEqDiff, Nat.reduceAdd, Nat.reduceSub, Nat.reduceLeDiff]
          exact ⟨s + 1, some (sub s.toNat l.length), rfl, ⟨by omega, by omega, by rw [e9]; exact q⟩, by omega⟩
        | false =>
          have q := g3.skip (fun h => by rw [hb] at h; cases h)
          rw [hb] at hfo
          simp (maxSteps := 1000000) (disch := omega) only [go_sem, eq_self, decide_true, decide_false, not_true_eq_false, not_false_eq_true, reduceIte, reduceCtorEq, Nat.reduceEqDiff, Nat.reduceAdd, Nat.reduceSub, Nat.reduceLeDiff]
          refine CALL_det hfo (.inl rfl) ?_
          simp (maxSteps := 1000000) (disch := omega) only [go_sem, eq_self, decide_true, decide_false, not_true_eq_false, not_false_eq_true, reduceIte, reduceCtorEq, Nat.reduceEqDiff, Nat.reduceAdd, Nat.reduceSub, Nat.reduceLeDiff]
          exact ⟨s + 1, none, rfl, ⟨by omega, by omega, by rw [e9]; exact q⟩, by omega⟩
      | some b =>
        obtain ⟨⟨t, t1, t2⟩, hfb⟩ := g3.is_ b rfl
        have hbl : b.length ≤ l.length := by rw [t2]; exact sub_len t _
        have hb0 : b ≠ [] := fun e => by
          subst e
          have hn : l.length ≠ 0 := fun h0 => by rw [h0] at hT; omega
          unfold fitB at hfb
          rw [if_neg hn, if_pos (show ([] : List Int).length = 0 from rfl)] at hfb
          cases hfb
        obtain ⟨o1, o2⟩ := or_LE (a := sub s.toNat l.length) (b := b)
        have hc1 := cmpInt_fc (sub s.toNat l.length).length b.length
        have hc2 := cmpL_fc (sub s.toNat l.length) b (by omega) (by omega)
        have hc3 := orI_fc false [sd b.length (sub s.toNat l.length).length, cmpS (sub s.toNat l.length) b] (by simp)
        have qs : 0 ≤ orSp [sd b.length (sub s.toNat l.length).length, cmpS (sub s.toNat l.length) b] → Bst dv mg l (s.toNat + 1) (some b) := fun h => g3.skip fun _ => ⟨b, rfl, o1 h⟩
        have qt : ¬0 ≤ orSp [sd b.length (sub s.toNat l.length).length, cmpS (sub s.toNat l.length) b] → fitB dv mg l (sub s.toNat l.length) = true → Bst dv mg l (s.toNat + 1) (some (sub s.toNat l.length)) := fun h1 h2 => g3.take h2 fun b' hb' => by injection hb' with hb'; subst hb'; exact o2 h1
        have qn : fitB dv mg l (sub s.toNat l.length) = false → Bst dv mg l (s.toNat + 1) (some b) := fun h1 => g3.skip fun h => by rw [h1] at h; cases h
        clear o1 o2 g3 hfb t1 t2
        rw [bestC_some]
        generalize hk : sub s.toNat l.length = k at *
        cases b with
        | nil => exact absurd rfl hb0
        | cons a b =>
          rw [show (a :: b).map intC = intC a :: b.map intC from rfl]
          generalize orSp [sd ((a :: b).length : Int) k.length, cmpS k (a :: b)] = y at *
          by_cases c : 0 ≤ y
          · have q := qs c
            simp (maxSteps := 1000000) (disch := omega) only [go_sem, eq_self, decide_true, decide_false, not_true_eq_false, not_false_eq_true, reduceIte, reduceCtorEq, Nat.reduceEqDiff, Nat.reduceAdd, Nat.reduceSub, Nat.reduceLeDiff]
            refine CALL_det hc1 (.inl rfl) ?_
            simp (maxSteps := 1000000) (disch := omega) only [go_sem, eq_self, decide_true, decide_false, not_true_eq_false, not_false_eq_true, reduceIte, reduceCtorEq, Nat.reduceEqDiff, Nat.reduceAdd, Nat.reduceSub, Nat.reduceLeDiff]
            refine CALL_det hc2 (.inl rfl) ?_
            simp (maxSteps := 1000000) (disch := omega) only [go_sem, eq_self, decide_true, decide_false, not_true_eq_false, not_false_eq_true, reduceIte, reduceCtorEq, Nat.reduceEqDiff, Nat.reduceAdd, Nat.reduceSub, Nat.reduceLeDiff]
            refine CALL_det hc3 (.inl rfl) ?_
            simp (maxSteps := 1000000) (disch := omega) only [go_sem, eq_self, decide_true, decide_false, not_true_eq_false, not_false_eq_true, reduceIte, reduceCtorEq, Nat.reduceEqDiff, Nat.reduceAdd, Nat.reduceSub, Nat.reduceLeDiff]
            exact ⟨s + 1, some (a :: b), rfl, ⟨by omega, by omega, by rw [e9]; exact q⟩, by omega⟩
          · cases hb : fitB dv mg l k with
            | true =>
              have q := qt c hb
              rw [hb] at hfo
              simp (maxSteps := 1000000) (disch := omega) only [go_sem, eq_self, decide_true, decide_false, not_true_eq_false, not_false_eq_true, reduceIte, reduceCtorEq, Nat.reduceEqDiff, Nat.reduceAdd, Nat.reduceSub, Nat.reduceLeDiff]
              refine CALL_det hc1 (.inl rfl) ?_
              simp (maxSteps := 1000000) (disch := omega) only [go_sem, eq_self, decide_true, decide_false, not_true_eq_false, not_false_eq_true, reduceIte, reduceCtorEq, Nat.reduceEqDiff, Nat.reduceAdd, Nat.reduceSub, Nat.reduceLeDiff]
              refine CALL_det hc2 (.inl rfl) ?_
              simp (maxSteps := 1000000) (disch := omega) only [go_sem, eq_self, decide_true, decide_false, not_true_eq_false, not_false_eq_true, reduceIte, reduceCtorEq, Nat.reduceEqDiff, Nat.reduceAdd, Nat.reduceSub, Nat.reduceLeDiff]
              refine CALL_det hc3 (.inl rfl) ?_
              simp (maxSteps := 1000000) (disch := omega) only [go_sem, eq_self, decide_true, decide_false, not_true_eq_false, not_false_eq_true, reduceIte, reduceCtorEq, Nat.reduceEqDiff, Nat.reduceAdd, Nat.reduceSub, Nat.reduceLeDiff]
              refine CALL_det hfo (.inl rfl) ?_
              simp (maxSteps := 1000000) (disch := omega) only [go_sem, eq_self, decide_true, decide_false, not_true_eq_false, not_false_eq_true, reduceIte, reduceCtorEq, Nat.reduceEqDiff, Nat.reduceAdd, Nat.reduceSub, Nat.reduceLeDiff]
              exact ⟨s + 1, some k, rfl, ⟨by omega, by omega, by rw [e9]; exact q⟩, by omega⟩
            | false =>
              have q := qn hb
              rw [hb] at hfo
              simp (maxSteps := 1000000) (disch := omega) only [go_sem, eq_self, decide_true, decide_false, not_true_eq_false, not_false_eq_true, reduceIte, reduceCtorEq, Nat.reduceEqDiff, Nat.reduceAdd, Nat.reduceSub, Nat.reduceLeDiff]
              refine CALL_det hc1 (.inl rfl) ?_
              simp (maxSteps := 1000000) (disch := omega) only [go_sem, eq_self, decide_true, decide_false, not_true_eq_false, not_false_eq_true, reduceIte, reduceCtorEq, Nat.reduceEqDiff, Nat.reduceAdd, Nat.reduceSub, Nat.reduceLeDiff]
              refine CALL_det hc2 (.inl rfl) ?_
              simp (maxSteps := 1000000) (disch := omega) only [go_sem, eq_self, decide_true, decide_false, not_true_eq_false, not_false_eq_true, reduceIte, reduceCtorEq, Nat.reduceEqDiff, Nat.reduceAdd, Nat.reduceSub, Nat.reduceLeDiff]
              refine CALL_det hc3 (.inl rfl) ?_
              simp (maxSteps := 1000000) (disch := omega) only [go_sem, eq_self, decide_true, decide_false, not_true_eq_false, not_false_eq_true, reduceIte, reduceCtorEq, Nat.reduceEqDiff, Nat.reduceAdd, Nat.reduceSub, Nat.reduceLeDiff]
              refine CALL_det hfo (.inl rfl) ?_
              simp (maxSteps := 1000000) (disch := omega) only [go_sem, eq_self, decide_true, decide_false, not_true_eq_false, not_false_eq_true, reduceIte, reduceCtorEq, Nat.reduceEqDiff, Nat.reduceAdd, Nat.reduceSub, Nat.reduceLeDiff]
              exact ⟨s + 1, some (a :: b), rfl, ⟨by omega, by omega, by rw [e9]; exact q⟩, by omega⟩
  · obtain rfl : s = T := by omega
    rw [show ((T : Nat) : Int).toNat = 2 ^ l.length by omega] at g3
    have := g3.min hs hm
    subst this
    rw [bestC_some]
    simp (maxSteps := 1000000) (disch := omega) only [go_sem, eq_self, decide_true, decide_false, not_true_eq_false, not_false_eq_true, reduceIte, reduceCtorEq, Nat.reduceEqDiff, Nat.reduceAdd, Nat.reduceSub, Nat.reduceLeDiff]
end Go.Proofs.Ytggbcgldnjmobaa

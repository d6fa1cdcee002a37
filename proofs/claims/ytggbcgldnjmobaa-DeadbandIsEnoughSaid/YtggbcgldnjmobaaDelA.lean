
/-
  slices.DeleteFunc over pieces: the row that is handed over keeps what is not deleted.
-/
import Derived.Test.YtggbcgldnjmobaaCrossb
namespace Go.Proofs.Ytggbcgldnjmobaa
open Go Go.Ai
set_option linter.unusedSimpArgs false
set_option linter.unusedVariables false
set_option maxHeartbeats 4000000
def A_del4 : List Ann := [⟨(some ⟨[0,1], [], [1000000]⟩), [], [], [], []⟩, ⟨(some ⟨[0,1,5], [], [1000000]⟩), [], [], [], []⟩, ⟨(some ⟨[0,1,5,12], [], [1000000]⟩), [], [], [], []⟩, ⟨(some ⟨[4], [], [1000000]⟩), [], [], [], []⟩, ⟨(some ⟨[0,1,5,6], [], [1000000]⟩), [], [], [], []⟩, ⟨(some ⟨[0,1,5,6,19], [], [1000000]⟩), [], [], [], []⟩, ⟨(some ⟨[0,1,5,6,7], [7], [1000000]⟩), [], [], [], []⟩, ⟨(some ⟨[0,1,5,6,7,29], [7], [1000000]⟩), [], [], [], []⟩, ⟨(some ⟨[0,1,5,6], [], [1000000]⟩), [], [], [], []⟩, ⟨(some ⟨[0,1,5,6], [], [1000000]⟩), [], [], [], []⟩, ⟨(some ⟨[0,1,5,6], [], [1000000]⟩), [], [], [], []⟩, ⟨(some ⟨[0,5], [], [1000000]⟩), [], [], [], [(38, ⟨[], [], [], [], []⟩)]⟩, ⟨(some ⟨[4], [], [1000000]⟩), [], [], [], [(41, ⟨[], [], [], [], []⟩)]⟩]
def C_del4 : AC := (.seq (.reg false [⟨(some 4), none, .mv (.v (.slice none 0 0))⟩] (some ⟨[0,1], [], [1000000]⟩))
  (.seq (.reg false [⟨(some 8), none, .mv (.t 0)⟩, ⟨(some 9), none, .mv (.t 1)⟩, ⟨(some 10), none, .call (.f 182) [(.t 8), (.t 9)]⟩, ⟨(some 5), none, .mv (.t 10)⟩] (some ⟨[0,1,5], [], [1000000]⟩))
  (.seq (.seq (.reg false [⟨(some 11), none, .mv (.t 5)⟩, ⟨(some 12), none, .bin .eql (.t 11) (.v (.int .i64 (-1)))⟩] (some ⟨[0,1,5,12], [], [1000000]⟩))
  (.cond (.t 12)
  (.seq (.reg false [⟨(some 13), none, .mv (.t 0)⟩, ⟨(some 4), none, .mv (.t 13)⟩] (some ⟨[4], [], [1000000]⟩))
  .ret)
  .skip))
  (.seq (.seq (.reg false [⟨(some 14), none, .mv (.t 5)⟩, ⟨(some 15), none, .bin .add (.t 14) (.v (.int .i64 (1)))⟩, ⟨(some 6), none, .mv (.t 15)⟩] (some ⟨[0,1,5,6], [], [1000000]⟩))
  (.block 0 (.loop (.seq (.seq (.reg false [⟨(some 16), none, .mv (.t 6)⟩, ⟨(some 17), none, .mv (.t 0)⟩, ⟨(some 18), none, .len (.t 17)⟩, ⟨(some 19), none, .bin .lss (.t 16) (.t 18)⟩] (some ⟨[0,1,5,6,19], [], [1000000]⟩))
  (.cond (.t 19)
  .skip
  (.exit 0)))
  (.seq (.block 1 (.seq (.reg false [⟨(some 22), none, .mv (.t 0)⟩, ⟨(some 23), none, .mv (.t 6)⟩, ⟨(some 24), none, .iadr 4 (.t 22) (.t 23)⟩, ⟨(some 25), none, .load true 4 (.t 24)⟩, ⟨(some 7), none, .alloc [(.int .i64 (0)), (.int .i64 (0)), (.int .i64 (0)), (.int .i64 (0))]⟩, ⟨none, none, .store 4 (.t 7) (.t 25)⟩] (some ⟨[0,1,5,6,7], [7], [1000000]⟩))
  (.seq (.reg false [⟨(some 26), none, .mv (.t 1)⟩, ⟨(some 27), none, .load true 4 (.t 7)⟩, ⟨(some 28), none, .call (.t 26) [(.t 27)]⟩, ⟨(some 29), none, .un .not (.t 28)⟩] (some ⟨[0,1,5,6,7,29], [7], [1000000]⟩))
  (.cond (.t 29)
  (.seq (.reg false [⟨(some 30), none, .mv (.t 0)⟩, ⟨(some 31), none, .mv (.t 5)⟩, ⟨(some 32), none, .load true 4 (.t 7)⟩, ⟨(some 33), none, .iadr 4 (.t 30) (.t 31)⟩, ⟨none, none, .store 4 (.t 33) (.t 32)⟩] (some ⟨[0,1,5,6], [], [1000000]⟩))
  (.reg false [⟨(some 34), none, .mv (.t 5)⟩, ⟨(some 35), none, .bin .add (.t 34) (.v (.int .i64 (1)))⟩, ⟨(some 5), none, .mv (.t 35)⟩] (some ⟨[0,1,5,6], [], [1000000]⟩)))
  .skip))))
  (.reg false [⟨(some 20), none, .mv (.t 6)⟩, ⟨(some 21), none, .bin .add (.t 20) (.v (.int .i64 (1)))⟩, ⟨(some 6), none, .mv (.t 21)⟩] (some ⟨[0,1,5,6], [], [1000000]⟩)))))))
  (.seq (.reg false [⟨(some 36), none, .mv (.t 0)⟩, ⟨(some 37), none, .mv (.t 5)⟩, ⟨(some 38), none, .sfx 4 (.t 36) (.t 37)⟩, ⟨none, none, .clr 174 4 [(.int .i64 (0)), (.int .i64 (0)), (.int .i64 (0)), (.int .i64 (0))] (.t 38)⟩] (some ⟨[0,5], [], [1000000]⟩))
  (.seq (.reg false [⟨(some 39), none, .mv (.t 0)⟩, ⟨(some 40), none, .mv (.t 5)⟩, ⟨(some 41), none, .trn 4 (.t 39) (.t 40)⟩, ⟨(some 4), none, .mv (.t 41)⟩] (some ⟨[4], [], [1000000]⟩))
  .ret))))))
theorem c_del4 : compileCode Try.prog Try.f159.ntmps (Try.f159.body.getD .skip) A_del4 = some (C_del4, []) := by kernel_rfl
theorem r_del4 : compileRes Try.prog Try.f159.results.toList = some [.t 4] := by kernel_rfl
theorem b_del4 : Try.f159.body = some (Try.f159.body.getD .skip) := by kernel_rfl
theorem n_del4 : (Try.f159.name == "runtime.NumGoroutine") = false := by kernel_rfl
theorem fcm_del4 {H : Hp} {K : Keep} {args : List Val} {R : Hp → Val → Prop} (hn : args.length ≤ Try.f159.ntmps) (hkb : ∀ p ∈ H.bs, p.1 = 0 ∨ XK ≤ p.1) (hkr : ∀ p ∈ H.rs, XK ≤ p.1) (h : ex Try.prog C_del4 [] (mpost H K [.t 4] R) (initM H args)) : FCM Try.prog 159 H args R :=
  fcm_of_awp Try.func159 b_del4 n_del4 c_del4 r_del4 (of_decide_eq_true (by kernel_rfl)) hn hkb hkr h
theorem fcms_del4 {S : List Nat} {H : Hp} {K : Keep} {args : List Val} {R : Hp → Val → Prop} (hn : args.length ≤ Try.f159.ntmps) (hkb : ∀ p ∈ H.bs, p.1 = 0 ∨ XK ≤ p.1) (hkr : ∀ p ∈ H.rs, XK ≤ p.1) (h : ex Try.prog C_del4 [] (mpostS S H K [.t 4] R) (initM H args))   : FCMS Try.prog 159 S H args R :=
  fcms_of_awp Try.func159 b_del4 n_del4 c_del4 r_del4 (of_decide_eq_true (by kernel_rfl)) hn hkb hkr h

def A_idx4 : List Ann := [⟨(some ⟨[0,1], [], []⟩), [], [], [], []⟩, ⟨(some ⟨[0,1,7,8], [], []⟩), [], [], [], []⟩, ⟨(some ⟨[0,1,7,8,9], [], []⟩), [], [], [], []⟩, ⟨(some ⟨[0,1,5,7,8], [], []⟩), [], [], [], []⟩, ⟨(some ⟨[0,1,5,7,8,16], [], []⟩), [], [], [], []⟩, ⟨(some ⟨[4], [], []⟩), [], [], [], []⟩, ⟨(some ⟨[0,1,7,8], [], []⟩), [], [], [], []⟩, ⟨(some ⟨[4], [], []⟩), [], [], [], []⟩]
def C_idx4 : AC := (.seq (.reg false [⟨(some 4), none, .mv (.v (.int .i64 (0)))⟩] (some ⟨[0,1], [], []⟩))
  (.seq (.seq (.reg false [⟨(some 6), none, .mv (.t 0)⟩, ⟨(some 7), none, .len (.t 6)⟩, ⟨(some 8), none, .mv (.v (.int .i64 (0)))⟩] (some ⟨[0,1,7,8], [], []⟩))
  (.block 0 (.loop (.seq (.reg false [⟨(some 9), none, .bin .lss (.t 8) (.t 7)⟩] (some ⟨[0,1,7,8,9], [], []⟩))
  (.seq (.cond (.t 9)
  .skip
  (.exit 0))
  (.seq (.block 1 (.seq (.reg false [⟨(some 10), none, .mv (.t 8)⟩, ⟨(some 5), none, .mv (.t 10)⟩] (some ⟨[0,1,5,7,8], [], []⟩))
  (.seq (.reg false [⟨(some 11), none, .mv (.t 1)⟩, ⟨(some 12), none, .mv (.t 0)⟩, ⟨(some 13), none, .mv (.t 5)⟩, ⟨(some 14), none, .iadr 4 (.t 12) (.t 13)⟩, ⟨(some 15), none, .load true 4 (.t 14)⟩, ⟨(some 16), none, .call (.t 11) [(.t 15)]⟩] (some ⟨[0,1,5,7,8,16], [], []⟩))
  (.cond (.t 16)
  (.seq (.reg false [⟨(some 17), none, .mv (.t 5)⟩, ⟨(some 4), none, .mv (.t 17)⟩] (some ⟨[4], [], []⟩))
  .ret)
  .skip))))
  (.reg false [⟨(some 18), none, .bin .add (.t 8) (.v (.int .i64 (1)))⟩, ⟨(some 8), none, .mv (.t 18)⟩] (some ⟨[0,1,7,8], [], []⟩))))))))
  (.seq (.reg false [⟨(some 4), none, .mv (.v (.int .i64 (-1)))⟩] (some ⟨[4], [], []⟩))
  .ret)))
theorem c_idx4 : compileCode Try.prog Try.f182.ntmps (Try.f182.body.getD .skip) A_idx4 = some (C_idx4, []) := by kernel_rfl
theorem r_idx4 : compileRes Try.prog Try.f182.results.toList = some [.t 4] := by kernel_rfl
theorem b_idx4 : Try.f182.body = some (Try.f182.body.getD .skip) := by kernel_rfl
theorem n_idx4 : (Try.f182.name == "runtime.NumGoroutine") = false := by kernel_rfl
theorem fc_idx4 {xt : Option (List Cel)} {args : List Val} {R : List Cel → Val → Prop} (hn : (if xt.isSome then 1 else 0) + args.length ≤ Try.f182.ntmps) (h : ex Try.prog C_idx4 [] (fpost xt [.t 4] R) (initSt xt args)) : FC Try.prog 182 xt args R :=
  fc_of_awp Try.func182 b_idx4 n_idx4 c_idx4 r_idx4 (of_decide_eq_true (by kernel_rfl)) hn h

def A_valClos : List Ann := [⟨(some ⟨[1], [1], []⟩), [], [], [], []⟩, ⟨(some ⟨[2], [], []⟩), [], [], [], []⟩]
def C_valClos : AC := (.seq (.reg false [⟨(some 1), none, .box (.t 0)⟩, ⟨(some 2), none, .mv (.v (.bool false))⟩] (some ⟨[1], [1], []⟩))
  (.seq (.reg false [⟨(some 3), none, .fadr 3 (.t 1)⟩, ⟨(some 4), none, .load false 1 (.t 3)⟩, ⟨(some 5), none, .bin .eql (.t 4) (.v (.int .i64 (2)))⟩, ⟨(some 2), none, .mv (.t 5)⟩] (some ⟨[2], [], []⟩))
  .ret))
theorem c_valClos : compileCode Try.prog Try.f160.ntmps (Try.f160.body.getD .skip) A_valClos = some (C_valClos, []) := by kernel_rfl
theorem r_valClos : compileRes Try.prog Try.f160.results.toList = some [.t 2] := by kernel_rfl
theorem b_valClos : Try.f160.body = some (Try.f160.body.getD .skip) := by kernel_rfl
theorem n_valClos : (Try.f160.name == "runtime.NumGoroutine") = false := by kernel_rfl
theorem fc_valClos {xt : Option (List Cel)} {args : List Val} {R : List Cel → Val → Prop} (hn : (if xt.isSome then 1 else 0) + args.length ≤ Try.f160.ntmps) (h : ex Try.prog C_valClos [] (fpost xt [.t 2] R) (initSt xt args)) : FC Try.prog 160 xt args R :=
  fc_of_awp Try.func160 b_valClos n_valClos c_valClos r_valClos (of_decide_eq_true (by kernel_rfl)) hn h


section
variable {P : Program} {Q : AX → AS → Prop} {s : AS} {k : List KI} {kp : Option Keep} {l : List GI}
/-- A contract that speaks of other keys, with what comes of it spelled out. -/
theorem CALLM_rnE {f : FuncId} {H0 X0 H : Hp} {Y0 : Val} {args0 vargs : List Val} {bks rks obs ors : List Nat} {d : Option Nat} (X : Hp) (Y : Val) (p q : Nat → Nat) (hp : ∀ k, p (p k) = k) (hq : ∀ k, q (q k) = k) (hf : FCM P f H0 args0 (fun H' r' => H' = X0 ∧ r' = Y0)) (hna : ∀ x ∈ args0, ∀ xs, x ≠ .tu xs)
    (hH : H0.rn p q = H) (ha : args0.map (rnV p q) = vargs) (hX : X0.rn p q = X) (hY : rnV p q Y0 = Y) (hk : X.bs.map (·.1) = obs ∧ X.rs.map (·.1) = ors) (h : rg P l kp k Q ((s.after ⟨bks, rks, obs, ors, []⟩ X).put d (s.backV ⟨bks, rks, obs, ors, []⟩ Y))) : CALLM P f H vargs ⟨bks, rks, obs, ors, []⟩ d l kp k Q s := by
  subst hX; subst hY
  exact CALLM_rn p q hp hq hf hna hH ha hk h
theorem CALLM_rnES {f : FuncId} {S0 : List Nat} {H0 X0 H : Hp} {Y0 : Val} {args0 vargs : List Val} {m : CAnn} {d : Option Nat} (X : Hp) (Y : Val) (p q : Nat → Nat) (hp : ∀ k, p (p k) = k) (hq : ∀ k, q (q k) = k) (hf : FCMS P f S0 H0 args0 (fun H' r' => H' = X0 ∧ r' = Y0)) (hna : ∀ x ∈ args0, ∀ xs, x ≠ .tu xs)
    (hS : S0.map q = m.sts) (hH : H0.rn p q = H) (ha : args0.map (rnV p q) = vargs) (hX : X0.rn p q = X) (hY : rnV p q Y0 = Y) (hk : X.bs.map (·.1) = m.obs ∧ X.rs.map (·.1) = m.ors) (h : rg P l kp k Q ((s.after m X).put d (s.backV m Y))) : CALLM P f H vargs m d l kp k Q s := by
  subst hX; subst hY
  exact CALLM_rnS p q hp hq hf hna hS hH ha hk h
end
def idxG {α : Type} (p : α → Bool) : Int → List α → Int
  | _, [] => -1
  | i, x :: l => if p x = true then i else idxG p (i + 1) l
theorem idxG_spec {α : Type} [Inhabited α] (p : α → Bool) : ∀ (l : List α) (i : Int), 0 ≤ i → (idxG p i l = -1 ∧ ∀ x ∈ l, p x = false) ∨ (i ≤ idxG p i l ∧ idxG p i l < i + l.length ∧ p (l.getD (idxG p i l - i).toNat default) = true ∧ ∀ j : Nat, (j : Int) < idxG p i l - i → p (l.getD j default) = false)
  | [], i, h => .inl ⟨rfl, by simp⟩
  | x :: l, i, h => by
    rw [idxG]
    cases hx : p x with
    | true => rw [if_pos rfl]; exact .inr ⟨by omega, by simp; omega, by simp [hx], fun j hj => by omega⟩
    | false =>
      rw [if_neg (by simp)]
      rcases idxG_spec p l (i + 1) (by omega) with ⟨h1, h2⟩ | ⟨h1, h2, h3, h4⟩
      · exact .inl ⟨h1, fun y hy => by simp only [List.mem_cons] at hy; rcases hy with rfl | hy; exact hx; exact h2 y hy⟩
      · have e : (idxG p (i + 1) l - i).toNat = (idxG p (i + 1) l - (i + 1)).toNat + 1 := by omega
        refine .inr ⟨by omega, by rw [List.length_cons]; omega, by rw [e, List.getD_cons_succ]; exact h3, fun j hj => ?_⟩
        cases j with
        | zero => simpa using hx
        | succ j => rw [List.getD_cons_succ]; exact h4 j (by omega)
theorem filter_none {α : Type} {p : α → Bool} {l : List α} (h : ∀ x ∈ l, p x = false) : l.filter (fun x => !p x) = l := List.filter_eq_self.2 (fun x hx => by rw [h x hx]; rfl)
/-- How far the deletion is: j are kept of the first k. -/
structure DelI {α : Type} (p : α → Bool) (l : List α) (j k : Int) (cur : List α) : Prop where
  j0 : 0 ≤ j
  jk : j < k
  kn : k ≤ l.length
  len : cur.length = l.length
  tk : cur.take j.toNat = (l.take k.toNat).filter fun x => !p x
  dr : cur.drop k.toNat = l.drop k.toNat
theorem take_snoc' {α : Type} [Inhabited α] (l : List α) (k : Nat) (h : k < l.length) : l.take (k + 1) = l.take k ++ [l.getD k default] := by
  rw [List.take_succ_eq_append_getElem h]; simp [List.getD_eq_getElem?_getD, h]
theorem DelI.start {α : Type} [Inhabited α] {p : α → Bool} {l : List α} {i : Int} (h0 : 0 ≤ i) (h1 : i < l.length) (h2 : p (l.getD i.toNat default) = true) (h3 : ∀ j : Nat, (j : Int) < i → p (l.getD j default) = false) : DelI p l i (i + 1) l := by
  refine ⟨h0, by omega, by omega, rfl, ?_, rfl⟩
  have e : (i + 1).toNat = i.toNat + 1 := by omega
  rw [e, take_snoc' l _ (by omega), List.filter_append]
  have h4 : (l.take i.toNat).filter (fun x => !p x) = l.take i.toNat := filter_none (fun x hx => by
    obtain ⟨j, hj, rfl⟩ := List.mem_iff_getElem.1 hx
    rw [List.length_take] at hj
    have := h3 j (by omega)
    rw [List.getElem_take]
    simpa [List.getD_eq_getElem?_getD, show j < l.length by omega] using this)
  rw [h4, List.filter_cons, if_neg (by rw [h2]; simp), List.filter_nil, List.append_nil]
theorem DelI.at {α : Type} [Inhabited α] {p : α → Bool} {l cur : List α} {j k : Int} (h : DelI p l j k cur) (hk : k < l.length) : cur.getD k.toNat default = l.getD k.toNat default := by
  have h1 := h.dr
  have h2 := h.len
  have h3 := h.j0
  have h4 := h.jk
  rw [List.drop_eq_getElem_cons (show k.toNat < cur.length by omega), List.drop_eq_getElem_cons (show k.toNat < l.length by omega)] at h1
  injection h1 with h1 _
  simp [List.getD_eq_getElem?_getD, show k.toNat < cur.length by omega, show k.toNat < l.length by omega, h1]
theorem DelI.drop1 {α : Type} {p : α → Bool} {l cur : List α} {j k : Int} (h : DelI p l j k cur) : cur.drop (k + 1).toNat = l.drop (k + 1).toNat := by
  have h3 := h.j0
  have h4 := h.jk
  have e : (k + 1).toNat = k.toNat + 1 := by omega
  rw [e, ← List.drop_drop, ← List.drop_drop, h.dr]
theorem DelI.del {α : Type} [Inhabited α] {p : α → Bool} {l cur : List α} {j k : Int} (h : DelI p l j k cur) (hk : k < l.length) (hp : p (l.getD k.toNat default) = true) : DelI p l j (k + 1) cur := by
  have h3 := h.j0
  have h4 := h.jk
  refine ⟨h3, by omega, by omega, h.len, ?_, h.drop1⟩
  have e : (k + 1).toNat = k.toNat + 1 := by omega
  rw [e, take_snoc' l _ (by omega), List.filter_append, h.tk, List.filter_cons, if_neg (by rw [hp]; simp), List.filter_nil, List.append_nil]
theorem DelI.put {α : Type} [Inhabited α] {p : α → Bool} {l cur : List α} {j k : Int} (h : DelI p l j k cur) (hk : k < l.length) (hp : p (l.getD k.toNat default) = false) : DelI p l (j + 1) (k + 1) (cur.set j.toNat (l.getD k.toNat default)) := by
  have h2 := h.len
  have h3 := h.j0
  have h4 := h.jk
  refine ⟨by omega, by omega, by omega, by rw [List.length_set]; exact h2, ?_, ?_⟩
  · have e : (k + 1).toNat = k.toNat + 1 := by omega
    have e2 : (j + 1).toNat = j.toNat + 1 := by omega
    have e3 : (cur.set j.toNat (l.getD k.toNat default)).getD j.toNat default = l.getD k.toNat default := by
      generalize l.getD k.toNat default = x
      simp [List.getD_eq_getElem?_getD, show j.toNat < cur.length by omega]
    rw [e, e2, take_snoc' l _ (by omega), List.filter_append, take_snoc' _ _ (by rw [List.length_set]; omega), List.take_set_of_le (Nat.le_refl _), h.tk, e3, List.filter_cons, if_pos (by rw [hp]; rfl), List.filter_nil]
  · rw [List.drop_set_of_lt (by omega)]; exact h.drop1
theorem DelI.fin {α : Type} {p : α → Bool} {l cur : List α} {j k : Int} (h : DelI p l j k cur) (hk : ¬ k < l.length) : cur.take j.toNat = l.filter fun x => !p x := by
  have h5 := h.kn
  rw [h.tk, List.take_of_length_le (by omega)]
/-- A piece: its window, value and quality. -/
structure Pc where
  f : Int
  t : Int
  v : Int
  q : Int
  deriving Inhabited
def pcC (x : Pc) : List Cel := [.g (.int .i64 x.f), .g (.int .i64 x.t), .g (.int .i64 x.v), .g (.int .i64 x.q)]
theorem pcC_eq (x : Pc) : pcC x = [.g (.int .i64 x.f), .g (.int .i64 x.t), .g (.int .i64 x.v), .g (.int .i64 x.q)] := (rfl)
theorem frE_pc (l : List Pc) : frE (l.map pcC) = true := frE_map (fun _ => rfl) l
theorem datE_pc (l : List Pc) : datE (l.map pcC) = l.map pcC := datE_map (fun _ => rfl) l
theorem tofE_pc (l : List Pc) : tofE (l.map pcC) = l.map pcC := tofE_map (fun _ => rfl) l
attribute [go_sem] pcC_eq frE_pc datE_pc tofE_pc
abbrev pcsV (fr : Bool) (l : List Pc) : Val := .one (.sl fr 4 (l.map pcC))
def ix4St (cl : FuncId) (l : List Pc) (i : Int) : AS := ⟨tabV [(0, pcsV false l), (1, .one (.fn cl [])), (7, iv l.length), (8, iv i)], tabO [], tabO []⟩
theorem idx4_fc (cl : FuncId) (p : Pc → Bool) (l : List Pc) (hl : l.length ≤ 1000000) (hcl : ∀ x, FC Try.prog cl none [.ag (pcC x)] (fun _ r => r = bv (p x))) : FC Try.prog 182 none [pcsV false l, .one (.fn cl [])] (fun _ r => r = iv (idxG p 0 l)) := by
  refine fc_idx4 (by simp +arith) ?_
  unfold C_idx4
  simp (maxSteps := 1000000) (disch := omega) only [go_sem, eq_self, decide_true, decide_false, not_true_eq_false, not_false_eq_true, reduceIte, reduceCtorEq, Nat.reduceEqDiff, Nat.reduceAdd, Nat.reduceSub, Nat.reduceLeDiff]
  refine ex_loop1 (ix4St cl l) (fun i => 0 ≤ i ∧ i ≤ l.length ∧ idxG p i (l.drop i.toNat) = idxG p 0 l) (fun i => (l.length - i).toNat) 0 ⟨by omega, by omega, rfl⟩ rfl ?_
  rintro i ⟨g1, g2, g3⟩
  unfold ix4St
  by_cases hi : i < l.length
  · rw [drop_cons l i.toNat (by omega), idxG] at g3
    have e2 : (i + 1).toNat = i.toNat + 1 := by omega
    simp (maxSteps := 1000000) (disch := omega) only [go_sem, eq_self, decide_true, decide_false, not_true_eq_false, not_false_eq_true, reduceIte, reduceCtorEq, Nat.reduceEqDiff, Nat.reduceAdd, Nat.reduceSub, Nat.reduceLeDiff]
    refine CALL_det (hcl _) (.inl rfl) ?_
    cases h : p (l.getD i.toNat default) with
    | true => rw [h, if_pos rfl] at g3; simp (maxSteps := 1000000) (disch := omega) only [go_sem, eq_self, decide_true, decide_false, not_true_eq_false, not_false_eq_true, reduceIte, reduceCtorEq, Nat.reduceEqDiff, Nat.reduceAdd, Nat.reduceSub, Nat.reduceLeDiff]; rw [← g3]
    | false =>
      rw [h, if_neg (by simp)] at g3
      simp (maxSteps := 1000000) (disch := omega) only [go_sem, eq_self, decide_true, decide_false, not_true_eq_false, not_false_eq_true, reduceIte, reduceCtorEq, Nat.reduceEqDiff, Nat.reduceAdd, Nat.reduceSub, Nat.reduceLeDiff]
      exact ⟨_, rfl, ⟨by omega, by omega, by rw [e2]; exact g3⟩, by omega⟩
  · rw [List.drop_eq_nil_of_le (by omega), idxG] at g3
    simp (maxSteps := 1000000) (disch := omega) only [go_sem, eq_self, decide_true, decide_false, not_true_eq_false, not_false_eq_true, reduceIte, reduceCtorEq, Nat.reduceEqDiff, Nat.reduceAdd, Nat.reduceSub, Nat.reduceLeDiff]
    rw [← g3]
abbrev pcRow (l : List Pc) : Row := ⟨0, 174, 4, l.map pcC⟩
def dl4St (cl : FuncId) (j k : Int) (cur : List Pc) : AS := ⟨tabV [(0, .one (.ow 1000000 0)), (1, .one (.fn cl [])), (5, iv j), (6, iv k)], tabO [], tabO [(1000000, pcRow cur)]⟩
theorem del4_fcm (cl : FuncId) (p : Pc → Bool) (l : List Pc) (hl : l.length ≤ 1000000) (hcl : ∀ x, FC Try.prog cl none [.ag (pcC x)] (fun _ r => r = bv (p x))) :
    FCM Try.prog 159 ⟨[], [(1000000, pcRow l)]⟩ [.one (.ow 1000000 0), .one (.fn cl [])] (fun H r => H = ⟨[], [(1000000, pcRow (l.filter fun x => !p x))]⟩ ∧ r = .one (.ow 1000000 0)) := by
  refine fcm_del4 (K := ⟨[], [], [1000000]⟩) (by simp +arith) (by simp) (by simp [XK]) ?_
  unfold C_del4
  simp (maxSteps := 1000000) (disch := omega) only [go_sem, eq_self, decide_true, decide_false, not_true_eq_false, not_false_eq_true, reduceIte, reduceCtorEq, Nat.reduceEqDiff, Nat.reduceAdd, Nat.reduceSub, Nat.reduceLeDiff]
  refine CALL_det (idx4_fc cl p l hl hcl) (.inl rfl) ?_
  rcases idxG_spec p l 0 (by omega) with ⟨h1, h2⟩ | ⟨h1, h2, h3, h4⟩
  · rw [h1]
    rw [filter_none h2]
    simp (maxSteps := 1000000) (disch := omega) only [go_sem, eq_self, decide_true, decide_false, not_true_eq_false, not_false_eq_true, reduceIte, reduceCtorEq, Nat.reduceEqDiff, Nat.reduceAdd, Nat.reduceSub, Nat.reduceLeDiff]
  · generalize idxG p 0 l = i at *
    rw [show (i - 0).toNat = i.toNat by omega] at h3
    have h5 := DelI.start h1 (by omega) h3 (fun j hj => h4 j (by omega))
    simp (maxSteps := 1000000) (disch := omega) only [go_sem, eq_self, decide_true, decide_false, not_true_eq_false, not_false_eq_true, reduceIte, reduceCtorEq, Nat.reduceEqDiff, Nat.reduceAdd, Nat.reduceSub, Nat.reduceLeDiff]
    refine ex_loop3 (dl4St cl) (DelI p l) (fun _ k _ => (l.length - k).toNat) i (i + 1) l h5 rfl ?_
    rintro j k cur hI
    have i1 := hI.j0
    have i2 := hI.jk
    have i3 := hI.kn
    have i4 := hI.len
    unfold dl4St
    by_cases hk : k < l.length
    · have eat := hI.at hk
      have ek := getD_map_at pcC cur k [] (by omega) (by omega)
      have ej := getE_map_in pcC cur j.toNat (by omega)
      simp (maxSteps := 1000000) (disch := omega) only [go_sem, eq_self, decide_true, decide_false, not_true_eq_false, not_false_eq_true, reduceIte, reduceCtorEq, Nat.reduceEqDiff, Nat.reduceAdd, Nat.reduceSub, Nat.reduceLeDiff]
      rw [eat]
      refine CALL_det (hcl _) (.inl rfl) ?_
      cases hp : p (l.getD k.toNat default) with
      | true =>
        simp (maxSteps := 1000000) (disch := omega) only [go_sem, eq_self, decide_true, decide_false, not_true_eq_false, not_false_eq_true, reduceIte, reduceCtorEq, Nat.reduceEqDiff, Nat.reduceAdd, Nat.reduceSub, Nat.reduceLeDiff]
        exact ⟨_, _, _, rfl, hI.del hk hp, by omega⟩
      | false =>
        simp (maxSteps := 1000000) (disch := omega) only [go_sem, eq_self, decide_true, decide_false, not_true_eq_false, not_false_eq_true, reduceIte, reduceCtorEq, Nat.reduceEqDiff, Nat.reduceAdd, Nat.reduceSub, Nat.reduceLeDiff]
        exact ⟨j + 1, k + 1, cur.set j.toNat (l.getD k.toNat default), by simp only [dl4St, pcRow, List.map_set, pcC_eq], hI.put hk hp, by omega⟩
    · have hf := hI.fin hk
      simp (maxSteps := 1000000) (disch := omega) only [go_sem, eq_self, decide_true, decide_false, not_true_eq_false, not_false_eq_true, reduceIte, reduceCtorEq, Nat.reduceEqDiff, Nat.reduceAdd, Nat.reduceSub, Nat.reduceLeDiff]
      refine ⟨⟨by omega, by simp; omega, by simp; omega⟩, ?_⟩
      rw [List.take_left' (by simp; omega), ← List.map_take, hf]
end Go.Proofs.Ytggbcgldnjmobaa

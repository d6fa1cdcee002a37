/-
  Where a value is above a limit, and nowhere else: AboveIsAbove's function.
-/
import Derived.Test.YtkecmbgjhamhiaaAbv
import Derived.Test.YtkecmbgjhamhiaaStpb
namespace Go.Proofs.Ytkecmbgjhamhiaa
open Go Go.Ai
set_option linter.unusedSimpArgs false
set_option linter.unusedVariables false
set_option maxHeartbeats 4000000
def A_contW : List Ann := [⟨(some ⟨[0,1], [], []⟩), [], [], [], []⟩, ⟨(some ⟨[4], [], []⟩), [], [], [], []⟩]
def C_contW : AC := (.seq (.reg false [⟨(some 4), none, .mv (.v (.bool false))⟩] (some ⟨[0,1], [], []⟩))
  (.seq (.reg false [⟨(some 5), none, .mv (.t 0)⟩, ⟨(some 6), none, .mv (.t 1)⟩, ⟨(some 7), none, .call (.f 123) [(.t 5), (.t 6)]⟩, ⟨(some 8), none, .bin .geq (.t 7) (.v (.int .i64 (0)))⟩, ⟨(some 4), none, .mv (.t 8)⟩] (some ⟨[4], [], []⟩))
  .ret))
theorem c_contW : compileCode Try.prog Try.f69.ntmps (Try.f69.body.getD .skip) A_contW = some (C_contW, []) := by kernel_rfl
theorem r_contW : compileRes Try.prog Try.f69.results.toList = some [.t 4] := by kernel_rfl
theorem b_contW : Try.f69.body = some (Try.f69.body.getD .skip) := by kernel_rfl
theorem n_contW : (Try.f69.name == "runtime.NumGoroutine") = false := by kernel_rfl
theorem fc_contW {xt : Option (List Cel)} {args : List Val} {R : List Cel → Val → Prop} (hn : (if xt.isSome then 1 else 0) + args.length ≤ Try.f69.ntmps) (h : ex Try.prog C_contW [] (fpost xt [.t 4] R) (initSt xt args)) : FC Try.prog 69 xt args R :=
  fc_of_awp Try.func69 b_contW n_contW c_contW r_contW (of_decide_eq_true (by kernel_rfl)) hn h

def A_aaClos : List Ann := [⟨(some ⟨[1,2], [2], []⟩), [], [], [], []⟩, ⟨(some ⟨[3], [], []⟩), [], [], [], []⟩]
def C_aaClos : AC := (.seq (.reg false [⟨(some 2), none, .box (.t 0)⟩, ⟨(some 3), none, .mv (.v (.bool false))⟩] (some ⟨[1,2], [2], []⟩))
  (.seq (.reg false [⟨(some 4), none, .fadr 0 (.t 2)⟩, ⟨(some 5), none, .load false 1 (.t 4)⟩, ⟨(some 6), none, .load false 1 (.t 1)⟩, ⟨(some 7), none, .bin .leq (.t 5) (.t 6)⟩, ⟨(some 8), none, .mv (.t 7)⟩, ⟨(some 9), (some (8, true)), .load false 1 (.t 1)⟩, ⟨(some 10), (some (8, true)), .fadr 1 (.t 2)⟩, ⟨(some 11), (some (8, true)), .load false 1 (.t 10)⟩, ⟨(some 12), (some (8, true)), .bin .lss (.t 9) (.t 11)⟩, ⟨(some 13), none, .pick (.t 8) (.t 12) (.v (.bool false))⟩, ⟨(some 3), none, .mv (.t 13)⟩] (some ⟨[3], [], []⟩))
  .ret))
theorem c_aaClos : compileCode Try.prog Try.f70.ntmps (Try.f70.body.getD .skip) A_aaClos = some (C_aaClos, []) := by kernel_rfl
theorem r_aaClos : compileRes Try.prog Try.f70.results.toList = some [.t 3] := by kernel_rfl
theorem b_aaClos : Try.f70.body = some (Try.f70.body.getD .skip) := by kernel_rfl
theorem n_aaClos : (Try.f70.name == "runtime.NumGoroutine") = false := by kernel_rfl
theorem fc_aaClos {xt : Option (List Cel)} {args : List Val} {R : List Cel → Val → Prop} (hn : (if xt.isSome then 1 else 0) + args.length ≤ Try.f70.ntmps) (h : ex Try.prog C_aaClos [] (fpost xt [.t 3] R) (initSt xt args)) : FC Try.prog 70 xt args R :=
  fc_of_awp Try.func70 b_aaClos n_aaClos c_aaClos r_aaClos (of_decide_eq_true (by kernel_rfl)) hn h

def A_aa : List Ann := [⟨(some ⟨[0], [], []⟩), [], [], [], []⟩, ⟨(some ⟨[3,20], [20], []⟩), [], [], [], []⟩, ⟨(some ⟨[4,5,6], [5], []⟩), [], [], [], []⟩, ⟨(some ⟨[4,5,6,7,8,9], [5], []⟩), [], [], [], []⟩, ⟨(some ⟨[4,5,6,7,8,9,11,12], [5], []⟩), [], [], [], []⟩, ⟨(some ⟨[4,5,6,7,57], [5], []⟩), [], [], [], []⟩, ⟨(some ⟨[2], [], []⟩), [], [], [], []⟩, ⟨(some ⟨[4,5,6,7,13], [5,13], []⟩), [], [], [], []⟩, ⟨(some ⟨[4,5,6,7,13,63], [5,13], []⟩), [], [], [], []⟩, ⟨(some ⟨[4,5,6,7,13,14,15,16], [5,13,14], []⟩), [], [], [], []⟩, ⟨(some ⟨[4,5,6,7,13,14,15,74], [5,13,14], []⟩), [], [], [], []⟩, ⟨(some ⟨[2], [], []⟩), [], [], [], []⟩, ⟨(some ⟨[4,5,6,7,13,17], [5,13], []⟩), [], [], [], []⟩, ⟨(some ⟨[4,5,6,7,13,92], [5,13], []⟩), [], [], [], []⟩, ⟨(some ⟨[2], [], []⟩), [], [], [], []⟩, ⟨(some ⟨[4,5,6,7,93], [5], []⟩), [], [], [], []⟩, ⟨(some ⟨[4,5,6,7,13], [5,13], []⟩), [], [], [], []⟩, ⟨(some ⟨[4,5,6,7,13], [5,13], []⟩), [], [], [], []⟩, ⟨(some ⟨[2], [], []⟩), [], [], [], []⟩]
def C_aa : AC := (.seq (.reg false [⟨(some 2), none, .mv (.v (.bool false))⟩] (some ⟨[0], [], []⟩))
  (.seq (.reg false [⟨(some 18), none, .mv (.t 0)⟩, ⟨(some 19), none, .build [(.slice none 0 0), (.int .i64 (0))] [(0, 1, (.t 18))]⟩, ⟨(some 20), none, .box (.t 19)⟩, ⟨(some 3), none, .mv (.t 20)⟩] (some ⟨[3,20], [20], []⟩))
  (.seq (.reg false [⟨(some 21), none, .mv (.t 3)⟩, ⟨(some 22), none, .callx (.f 64) [(.t 21), (.v (.int .i64 (10)))]⟩, ⟨(some 23), none, .mv (.t 3)⟩, ⟨(some 24), none, .callx (.f 65) [(.t 23), (.v (.int .i64 (0))), (.v (.int .i64 (30)))]⟩, ⟨(some 25), none, .mv (.t 3)⟩, ⟨(some 26), none, .callx (.f 65) [(.t 25), (.v (.int .i64 (30))), (.v (.int .i64 (90)))]⟩, ⟨(some 27), none, .build [(.int .i64 (0)), (.int .i64 (0))] [(0, 1, (.t 24)), (1, 1, (.t 26))]⟩, ⟨(some 28), none, .mv (.t 3)⟩, ⟨(some 29), none, .callx (.f 65) [(.t 28), (.v (.int .i64 (-3))), (.v (.int .i64 (8)))]⟩, ⟨(some 5), none, .alloc [(.int .i64 (0)), (.int .i64 (0))]⟩, ⟨(some 4), none, .mv (.t 22)⟩, ⟨none, none, .store 2 (.t 5) (.t 27)⟩, ⟨(some 6), none, .mv (.t 29)⟩] (some ⟨[4,5,6], [5], []⟩))
  (.seq (.reg false [⟨(some 31), none, .mv (.t 4)⟩, ⟨(some 32), none, .load true 2 (.t 5)⟩, ⟨(some 33), none, .mv (.t 6)⟩, ⟨(some 34), none, .call (.f 56) [(.t 31), (.t 32), (.t 33)]⟩, ⟨(some 30), none, .mv (.t 34)⟩, ⟨(some 35), none, .extr (.t 30) 0⟩, ⟨(some 36), none, .extr (.t 30) 1⟩, ⟨(some 37), none, .extr (.t 30) 2⟩, ⟨(some 7), none, .mv (.t 35)⟩, ⟨(some 8), none, .mv (.t 36)⟩, ⟨(some 9), none, .mv (.t 37)⟩] (some ⟨[4,5,6,7,8,9], [5], []⟩))
  (.seq (.reg false [⟨(some 39), none, .mv (.t 4)⟩, ⟨(some 40), none, .load true 2 (.t 5)⟩, ⟨(some 41), none, .mv (.t 6)⟩, ⟨(some 42), none, .bin .add (.t 41) (.v (.int .i64 (1)))⟩, ⟨(some 43), none, .call (.f 56) [(.t 39), (.t 40), (.t 42)]⟩, ⟨(some 38), none, .mv (.t 43)⟩, ⟨(some 44), none, .extr (.t 38) 0⟩, ⟨(some 45), none, .extr (.t 38) 1⟩, ⟨(some 46), none, .extr (.t 38) 2⟩, ⟨(some 10), none, .mv (.t 44)⟩, ⟨(some 11), none, .mv (.t 45)⟩, ⟨(some 12), none, .mv (.t 46)⟩] (some ⟨[4,5,6,7,8,9,11,12], [5], []⟩))
  (.seq (.seq (.reg false [⟨(some 47), none, .mv (.t 9)⟩, ⟨(some 48), none, .bin .neq (.t 47) (.v (.int .i64 (0)))⟩, ⟨(some 49), none, .mv (.t 48)⟩, ⟨(some 50), (some (49, false)), .mv (.t 12)⟩, ⟨(some 51), (some (49, false)), .bin .neq (.t 50) (.v (.int .i64 (0)))⟩, ⟨(some 52), none, .pick (.t 49) (.v (.bool true)) (.t 51)⟩, ⟨(some 53), none, .mv (.t 52)⟩, ⟨(some 54), (some (53, false)), .mv (.t 11)⟩, ⟨(some 55), (some (53, false)), .mv (.t 8)⟩, ⟨(some 56), (some (53, false)), .bin .gtr (.t 54) (.t 55)⟩, ⟨(some 57), none, .pick (.t 53) (.v (.bool true)) (.t 56)⟩] (some ⟨[4,5,6,7,57], [5], []⟩))
  (.cond (.t 57)
  (.seq (.reg false [⟨(some 2), none, .mv (.v (.bool false))⟩] (some ⟨[2], [], []⟩))
  .ret)
  .skip))
  (.seq (.seq (.reg false [⟨(some 58), none, .fadr 0 (.t 5)⟩, ⟨(some 59), none, .load false 1 (.t 58)⟩, ⟨(some 13), none, .alloc [(.int .i64 (0))]⟩, ⟨none, none, .store 1 (.t 13) (.t 59)⟩] (some ⟨[4,5,6,7,13], [5,13], []⟩))
  (.block 0 (.loop (.seq (.seq (.reg false [⟨(some 60), none, .load false 1 (.t 13)⟩, ⟨(some 61), none, .fadr 1 (.t 5)⟩, ⟨(some 62), none, .load false 1 (.t 61)⟩, ⟨(some 63), none, .bin .lss (.t 60) (.t 62)⟩] (some ⟨[4,5,6,7,13,63], [5,13], []⟩))
  (.cond (.t 63)
  .skip
  (.exit 0)))
  (.seq (.block 1 (.seq (.reg false [⟨(some 67), none, .mv (.t 4)⟩, ⟨(some 68), none, .load false 1 (.t 13)⟩, ⟨(some 69), none, .call (.f 21) [(.t 67), (.v (.bool true)), (.t 68)]⟩, ⟨(some 66), none, .mv (.t 69)⟩, ⟨(some 70), none, .extr (.t 66) 0⟩, ⟨(some 71), none, .extr (.t 66) 1⟩, ⟨(some 72), none, .extr (.t 66) 2⟩, ⟨(some 14), none, .alloc [(.int .i64 (0)), (.int .i64 (0)), (.int .i64 (0)), (.int .i64 (0))]⟩, ⟨none, none, .store 4 (.t 14) (.t 70)⟩, ⟨(some 15), none, .mv (.t 71)⟩, ⟨(some 16), none, .mv (.t 72)⟩] (some ⟨[4,5,6,7,13,14,15,16], [5,13,14], []⟩))
  (.seq (.seq (.reg false [⟨(some 73), none, .mv (.t 16)⟩, ⟨(some 74), none, .bin .neq (.t 73) (.v (.int .i64 (0)))⟩] (some ⟨[4,5,6,7,13,14,15,74], [5,13,14], []⟩))
  (.cond (.t 74)
  (.seq (.reg false [⟨(some 2), none, .mv (.v (.bool false))⟩] (some ⟨[2], [], []⟩))
  .ret)
  .skip))
  (.seq (.reg false [⟨(some 75), none, .mv (.t 15)⟩, ⟨(some 76), none, .mv (.t 75)⟩, ⟨(some 77), (some (76, true)), .fadr 3 (.t 14)⟩, ⟨(some 78), (some (76, true)), .load false 1 (.t 77)⟩, ⟨(some 79), (some (76, true)), .bin .neq (.t 78) (.v (.int .i64 (2)))⟩, ⟨(some 80), none, .pick (.t 76) (.t 79) (.v (.bool false))⟩, ⟨(some 81), none, .mv (.t 80)⟩, ⟨(some 82), (some (81, true)), .fadr 1 (.t 14)⟩, ⟨(some 83), (some (81, true)), .fadr 0 (.t 82)⟩, ⟨(some 84), (some (81, true)), .load false 1 (.t 83)⟩, ⟨(some 85), (some (81, true)), .mv (.t 6)⟩, ⟨(some 86), (some (81, true)), .bin .gtr (.t 84) (.t 85)⟩, ⟨(some 87), none, .pick (.t 81) (.t 86) (.v (.bool false))⟩, ⟨(some 17), none, .mv (.t 87)⟩] (some ⟨[4,5,6,7,13,17], [5,13], []⟩))
  (.seq (.reg false [⟨(some 88), none, .mv (.t 17)⟩, ⟨(some 89), none, .mv (.t 7)⟩, ⟨(some 90), none, .mkfn 70 [(.t 13)]⟩, ⟨(some 91), none, .call (.f 69) [(.t 89), (.t 90)]⟩, ⟨(some 92), none, .eqs true false [.b] (.t 88) (.t 91)⟩] (some ⟨[4,5,6,7,13,92], [5,13], []⟩))
  (.cond (.t 92)
  (.seq (.reg false [⟨(some 2), none, .mv (.v (.bool false))⟩] (some ⟨[2], [], []⟩))
  .ret)
  .skip))))))
  (.seq (.seq (.reg false [⟨(some 93), none, .load false 1 (.t 13)⟩] (some ⟨[4,5,6,7,93], [5], []⟩))
  (.reg false [⟨(some 13), none, .alloc [(.int .i64 (0))]⟩, ⟨none, none, .store 1 (.t 13) (.t 93)⟩] (some ⟨[4,5,6,7,13], [5,13], []⟩)))
  (.reg false [⟨(some 64), none, .load false 1 (.t 13)⟩, ⟨(some 65), none, .bin .add (.t 64) (.v (.int .i64 (1)))⟩, ⟨none, none, .store 1 (.t 13) (.t 65)⟩] (some ⟨[4,5,6,7,13], [5,13], []⟩))))))))
  (.seq (.reg false [⟨(some 94), none, .call (.f 68) []⟩, ⟨(some 2), none, .mv (.t 94)⟩] (some ⟨[2], [], []⟩))
  .ret))))))))
theorem c_aa : compileCode Try.prog Try.f9.ntmps (Try.f9.body.getD .skip) A_aa = some (C_aa, []) := by kernel_rfl
theorem r_aa : compileRes Try.prog Try.f9.results.toList = some [.t 2] := by kernel_rfl
theorem b_aa : Try.f9.body = some (Try.f9.body.getD .skip) := by kernel_rfl
theorem n_aa : (Try.f9.name == "runtime.NumGoroutine") = false := by kernel_rfl
theorem fc_aa {xt : Option (List Cel)} {args : List Val} {R : List Cel → Val → Prop} (hn : (if xt.isSome then 1 else 0) + args.length ≤ Try.f9.ntmps) (h : ex Try.prog C_aa [] (fpost xt [.t 2] R) (initSt xt args)) : FC Try.prog 9 xt args R :=
  fc_of_awp Try.func9 b_aa n_aa c_aa r_aa (of_decide_eq_true (by kernel_rfl)) hn h


def sumL (L : Int) : List Pc → Int
  | [] => 0
  | p :: r => (if p.v ≤ L then 0 else p.t - p.f) + sumL L r
theorem abSum (L : Int) : ∀ (m : List Pc) (x : List (Int × Int) × Int), (m.foldl (abStep L) x).2 = x.2 + sumL L m
  | [], x => by simp [sumL]
  | p :: r, x => by
    rw [List.foldl_cons, abSum L r, sumL]
    unfold abStep
    by_cases h : p.v ≤ L
    · rw [if_pos h, if_pos h]; omega
    · rw [if_neg h, if_neg h]; simp only []; omega
theorem sumL_le (L : Int) : ∀ m : List Pc, (∀ p ∈ m, p.f < p.t) → sumL (L + 1) m ≤ sumL L m
  | [], _ => by simp [sumL]
  | p :: r, h => by
    have h1 := sumL_le L r (fun q hq => h q (by simp [hq]))
    have h2 := h p (by simp)
    rw [sumL, sumL]
    split <;> split <;> omega
theorem snoc_of {α : Type} {out : List α} (h : 1 ≤ out.length) : ∃ a b, out = a ++ [b] := by
  have hne : out ≠ [] := by intro h2; subst h2; simp at h
  exact ⟨out.dropLast, out.getLast hne, (List.dropLast_concat_getLast hne).symm⟩
theorem last_snoc (a : List (Int × Int)) (b : Int × Int) : (a ++ [b]).getD (((a ++ [b]).length : Int) - 1).toNat default = b := by
  have : (((a ++ [b]).length : Int) - 1).toNat = a.length := by simp
  rw [this]; simp
theorem setTo_snoc (a : List (Int × Int)) (b : Int × Int) (t : Int) : setTo (a ++ [b]) t = a ++ [(b.1, t)] := by
  unfold setTo
  rw [last_snoc]
  have : (((a ++ [b]).length : Int) - 1).toNat = a.length := by simp
  rw [this]; simp
def inW (at_ : Int) (w : Int × Int) : Prop := w.1 ≤ at_ ∧ at_ < w.2
theorem ab_cover (L at_ : Int) : ∀ (m : List Pc) (x : List (Int × Int) × Int), (∀ p ∈ m, p.f < p.t) → (∀ w ∈ x.1, w.1 < w.2) →
    ((∃ w ∈ (m.foldl (abStep L) x).1, inW at_ w) ↔ (∃ w ∈ x.1, inW at_ w) ∨ ∃ p ∈ m, L < p.v ∧ p.f ≤ at_ ∧ at_ < p.t)
  | [], x, _, _ => by simp
  | p :: r, x, hm, hx => by
    have hp := hm p (by simp)
    have hr : ∀ q ∈ r, q.f < q.t := fun q hq => hm q (by simp [hq])
    rw [List.foldl_cons]
    have hx' : ∀ w ∈ (abStep L x p).1, w.1 < w.2 := by
      unfold abStep
      split
      · exact hx
      · simp only []
        split
        · rename_i h
          obtain ⟨a, b, hab⟩ := snoc_of h.1
          have h2 := h.2
          rw [hab, last_snoc] at h2
          rw [hab, setTo_snoc]
          have hb := hx b (by rw [hab]; simp)
          intro w hw
          simp only [List.mem_append, List.mem_cons, List.not_mem_nil, or_false] at hw
          rcases hw with hw | rfl
          · exact hx w (by rw [hab]; simp [hw])
          · simp only; omega
        · intro w hw
          simp only [List.mem_append, List.mem_cons, List.not_mem_nil, or_false] at hw
          rcases hw with hw | rfl
          · exact hx w hw
          · exact hp
    rw [ab_cover L at_ r _ hr hx']
    have key : (∃ w ∈ (abStep L x p).1, inW at_ w) ↔ (∃ w ∈ x.1, inW at_ w) ∨ (L < p.v ∧ p.f ≤ at_ ∧ at_ < p.t) := by
      unfold abStep
      by_cases h1 : p.v ≤ L
      · rw [if_pos h1]
        constructor
        · exact .inl
        · rintro (h | h)
          · exact h
          · omega
      · rw [if_neg h1]
        simp only []
        split
        · rename_i h
          obtain ⟨a, b, hab⟩ := snoc_of h.1
          have h2 := h.2
          rw [hab, last_snoc] at h2
          have hb := hx b (by rw [hab]; simp)
          rw [hab, setTo_snoc]
          simp only [List.mem_append, List.mem_cons, List.not_mem_nil, or_false]
          constructor
          · rintro ⟨w, hw | rfl, hi⟩
            · exact .inl ⟨w, .inl hw, hi⟩
            · unfold inW at hi
              simp only at hi
              by_cases h3 : at_ < b.2
              · exact .inl ⟨b, .inr rfl, hi.1, h3⟩
              · exact .inr ⟨by omega, by omega, hi.2⟩
          · rintro (⟨w, hw | rfl, hi⟩ | ⟨_, h4, h5⟩)
            · exact ⟨w, .inl hw, hi⟩
            · unfold inW at hi
              exact ⟨(w.1, p.t), .inr rfl, hi.1, by simp only; omega⟩
            · exact ⟨(b.1, p.t), .inr rfl, by simp only; omega, h5⟩
        · simp only [List.mem_append, List.mem_cons, List.not_mem_nil, or_false]
          constructor
          · rintro ⟨w, hw | rfl, hi⟩
            · exact .inl ⟨w, hw, hi⟩
            · exact .inr ⟨by omega, hi.1, hi.2⟩
          · rintro (⟨w, hw, hi⟩ | ⟨_, h4, h5⟩)
            · exact ⟨w, .inl hw, hi⟩
            · exact ⟨(p.f, p.t), .inr rfl, h4, h5⟩
    rw [key]
    simp only [List.mem_cons]
    constructor
    · rintro ((h | h) | ⟨q, hq, h⟩)
      · exact .inl h
      · exact .inr ⟨p, .inl rfl, h⟩
      · exact .inr ⟨q, .inr hq, h⟩
    · rintro (h | ⟨q, rfl | hq, h⟩)
      · exact .inl (.inl h)
      · exact .inl (.inr h)
      · exact .inr ⟨q, hq, h⟩
theorem lastLe_gt (at_ : Int) : ∀ (l : List Smp) (o : Option Smp), (∀ x ∈ l, at_ < x.a) → lastLe at_ o l = o
  | [], o, _ => rfl
  | x :: r, o, h => by
    have h1 := h x (by simp)
    rw [lastLe, if_neg (by omega)]
    exact lastLe_gt at_ r o (fun y hy => h y (by simp [hy]))
theorem serGo_gt : ∀ (l : List Smp) (x : Smp), serGo (some x) l = 0 → ∀ y ∈ l, x.a < y.a
  | [], x, _, y, hy => by cases hy
  | z :: r, x, h, y, hy => by
    obtain ⟨h1, h2, h3⟩ := serGo_c.1 h
    have h4 := h2 x rfl
    simp only [List.mem_cons] at hy
    rcases hy with rfl | hy
    · exact h4
    · have := serGo_gt r z h3 y hy; omega
/-- The pieces of a window cover each moment with the sample that counts. -/
theorem pcs_cover (f t at_ : Int) (hf : f ≤ at_) (ht : at_ < t) (C : Int → Int → Prop) : ∀ (l : List Smp) (o : Option Smp), serGo o l = 0 →
    ((∃ p ∈ pcsGo f t l, (p.f ≤ at_ ∧ at_ < p.t) ∧ C p.v p.q) ↔ ∃ s, lastLe at_ none l = some s ∧ C s.v s.q)
  | [], o, _ => by simp [pcsGo, lastLe]
  | [s], o, _ => by
    rw [pcsGo, lastLe, lastLe]
    by_cases h : s.a ≤ at_
    · rw [if_pos (by omega), if_pos h]
      constructor
      · rintro ⟨p, hp, h1, h2⟩
        simp only [List.mem_cons, List.not_mem_nil, or_false] at hp
        subst hp
        exact ⟨s, rfl, h2⟩
      · rintro ⟨x, hx, h2⟩
        injection hx with hx; subst hx
        exact ⟨_, by simp only [List.mem_cons, List.not_mem_nil, or_false]; rfl, ⟨by simp only; omega, ht⟩, h2⟩
    · rw [if_neg h]
      constructor
      · rintro ⟨p, hp, h1, h2⟩
        split at hp
        · simp only [List.mem_cons, List.not_mem_nil, or_false] at hp
          subst hp
          simp only at h1
          omega
        · cases hp
      · rintro ⟨x, hx, _⟩; cases hx
  | s :: s' :: r, o, hs => by
    obtain ⟨_, _, h3⟩ := serGo_c.1 hs
    have h4 := (serGo_c.1 h3).2.1 s rfl
    have ih := pcs_cover f t at_ hf ht C (s' :: r) (some s) h3
    rw [pcsGo]
    by_cases h5 : s'.a ≤ at_
    · have e : lastLe at_ none (s :: s' :: r) = lastLe at_ none (s' :: r) := by
        rw [lastLe, lastLe, lastLe, if_pos h5, if_pos h5]
      rw [e, ← ih]
      constructor
      · rintro ⟨p, hp, h1, h2⟩
        rw [List.mem_append] at hp
        rcases hp with hp | hp
        · split at hp
          · simp only [List.mem_cons, List.not_mem_nil, or_false] at hp
            subst hp
            simp only at h1
            omega
          · cases hp
        · exact ⟨p, hp, h1, h2⟩
      · rintro ⟨p, hp, h1, h2⟩
        exact ⟨p, by rw [List.mem_append]; exact .inr hp, h1, h2⟩
    · have hgt : ∀ x ∈ s' :: r, at_ < x.a := fun x hx => by
        simp only [List.mem_cons] at hx
        rcases hx with rfl | hx
        · omega
        · have := serGo_gt r s' (serGo_c.1 h3).2.2 x hx; omega
      have e2 : lastLe at_ none (s' :: r) = none := lastLe_gt at_ _ _ hgt
      have hno : ¬ ∃ p ∈ pcsGo f t (s' :: r), (p.f ≤ at_ ∧ at_ < p.t) ∧ C p.v p.q := by
        rw [ih, e2]; rintro ⟨x, hx, _⟩; cases hx
      rw [lastLe, lastLe_gt at_ _ _ hgt]
      by_cases h : s.a ≤ at_
      · rw [if_pos h, if_pos (by omega)]
        constructor
        · rintro ⟨p, hp, h1, h2⟩
          simp only [List.mem_append, List.mem_cons, List.not_mem_nil, or_false] at hp
          rcases hp with rfl | hp
          · exact ⟨s, rfl, h2⟩
          · exact absurd ⟨p, hp, h1, h2⟩ hno
        · rintro ⟨x, hx, h2⟩
          injection hx with hx; subst hx
          exact ⟨⟨max f s.a, min t s'.a, s.v, s.q⟩, by simp, ⟨by simp only; omega, by simp only; omega⟩, h2⟩
      · rw [if_neg h]
        constructor
        · rintro ⟨p, hp, h1, h2⟩
          rw [List.mem_append] at hp
          rcases hp with hp | hp
          · split at hp
            · simp only [List.mem_cons, List.not_mem_nil, or_false] at hp
              subst hp
              simp only at h1
              omega
            · cases hp
          · exact absurd ⟨p, hp, h1, h2⟩ hno
        · rintro ⟨x, hx, _⟩; cases hx
def inB (at_ : Int) (w : Int × Int) : Bool := decide (w.1 ≤ at_) && decide (at_ < w.2)
theorem idxG_any {α : Type} [Inhabited α] (p : α → Bool) (l : List α) : decide (idxG p 0 l ≥ 0) = l.any p := by
  rcases idxG_spec p l 0 (by omega) with ⟨h1, h2⟩ | ⟨h1, h2, h3, _⟩
  · rw [h1]
    have : l.any p = false := by rw [List.any_eq_false]; intro x hx; rw [h2 x hx]; simp
    rw [this]; rfl
  · have : l.any p = true := List.any_eq_true.2 ⟨_, getD_mem l _ (by omega), h3⟩
    rw [this]; simp [h1]
theorem contW_fc (cl : FuncId) (cs : List Cel) (p : Int × Int → Bool) (l : List (Int × Int)) (hl : l.length ≤ 1000000) (hcl : ∀ x ∈ l, FC Try.prog cl none [.ag (frC x), .one (.ep cs)] (fun _ r => r = bv (p x))) : FC Try.prog 69 none [frsV false l, .one (.fn cl [.ep cs])] (fun _ r => r = bv (l.any p)) := by
  refine fc_contW (by simp +arith) ?_
  unfold C_contW
  simp (maxSteps := 1000000) (disch := omega) only [go_sem, eq_self, decide_true, decide_false, not_true_eq_false, not_false_eq_true, reduceIte, reduceCtorEq, Nat.reduceEqDiff, Nat.reduceAdd, Nat.reduceSub, Nat.reduceLeDiff]
  refine CALL_det (idxW_fc cl cs p l hl hcl) (.inl rfl) ?_
  simp (maxSteps := 1000000) (disch := omega) only [go_sem, eq_self, decide_true, decide_false, not_true_eq_false, not_false_eq_true, reduceIte, reduceCtorEq, Nat.reduceEqDiff, Nat.reduceAdd, Nat.reduceSub, Nat.reduceLeDiff]
  rw [← idxG_any p l]
theorem aaClos_fc (x : Int × Int) (at_ : Int) : FC Try.prog 70 none [.ag (frC x), .one (.ep [.g (.int .i64 at_)])] (fun _ r => r = bv (inB at_ x)) := by
  refine fc_aaClos (by simp +arith) ?_
  unfold C_aaClos inB
  by_cases h : x.1 ≤ at_
  · rw [decide_eq_true h, Bool.true_and]
    simp (maxSteps := 1000000) (disch := omega) only [go_sem, eq_self, decide_true, decide_false, not_true_eq_false, not_false_eq_true, reduceIte, reduceCtorEq, Nat.reduceEqDiff, Nat.reduceAdd, Nat.reduceSub, Nat.reduceLeDiff]
  · rw [decide_eq_false h, Bool.false_and]
    simp (maxSteps := 1000000) (disch := omega) only [go_sem, eq_self, decide_true, decide_false, not_true_eq_false, not_false_eq_true, reduceIte, reduceCtorEq, Nat.reduceEqDiff, Nat.reduceAdd, Nat.reduceSub, Nat.reduceLeDiff]
def abvB (lim : Int) (l : List Smp) (at_ : Int) : Bool := match lastLe at_ none l with
  | none => false
  | some p => decide (¬p.q = 2 ∧ p.v > lim)
theorem abv_eq (lim f t at_ : Int) (hf : f ≤ at_) (ht : at_ < t) (l : List Smp) (hs : serFault l = 0) : (abW lim f t l).1.any (inB at_) = abvB lim l at_ := by
  have hg := good_of hs
  have hok := vals_ok f t hg
  have h1 := ab_cover lim at_ (vals f t l) ([], 0) (fun p hp => (hok p hp).2.1) (by simp)
  have h2 := pcs_cover f t at_ hf ht (fun v q => ¬q = 2 ∧ v > lim) l none (serFault_ok hs).2
  have h3 : ((abW lim f t l).1.any (inB at_) = true) ↔ abvB lim l at_ = true := by
    rw [List.any_eq_true]
    have e1 : (∃ x, x ∈ (abW lim f t l).1 ∧ inB at_ x = true) ↔ ∃ w ∈ (abW lim f t l).1, inW at_ w := by
      constructor
      · rintro ⟨w, hw, h⟩; exact ⟨w, hw, by unfold inB at h; unfold inW; simpa using h⟩
      · rintro ⟨w, hw, h⟩; exact ⟨w, hw, by unfold inB; unfold inW at h; simpa using h⟩
    rw [e1]
    unfold abW
    rw [h1]
    have e2 : abvB lim l at_ = true ↔ ∃ s, lastLe at_ none l = some s ∧ ¬s.q = 2 ∧ s.v > lim := by
      unfold abvB
      cases lastLe at_ none l with
      | none => simp
      | some p => simp
    rw [e2, ← h2]
    constructor
    · rintro (⟨w, hw, _⟩ | ⟨p, hp, h4, h5⟩)
      · cases hw
      · unfold vals at hp
        rw [List.mem_filter] at hp
        exact ⟨p, hp.1, h5, by simpa using hp.2, h4⟩
    · rintro ⟨p, hp, h4, h5, h6⟩
      exact .inr ⟨p, by unfold vals; rw [List.mem_filter]; exact ⟨hp, by simpa using h5⟩, h6, h4⟩
  cases h4 : (abW lim f t l).1.any (inB at_) <;> cases h5 : abvB lim l at_ <;> simp_all
end Go.Proofs.Ytkecmbgjhamhiaa

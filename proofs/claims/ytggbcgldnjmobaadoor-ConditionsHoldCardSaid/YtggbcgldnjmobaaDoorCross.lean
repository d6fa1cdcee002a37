
/-
  Crossings of a limit: Crossings and the reference's answer are one.
-/
import Derived.Test.YtggbcgldnjmobaaDoorVal
import Derived.Test.YtggbcgldnjmobaaDoorGenB
namespace Go.Proofs.YtggbcgldnjmobaaDoor
open Go Go.Ai
set_option linter.unusedSimpArgs false
set_option linter.unusedVariables false
set_option maxHeartbeats 4000000
def A_isNaN : List Ann := [⟨(some ⟨[0], [], []⟩), [], [], [], []⟩, ⟨(some ⟨[2], [], []⟩), [], [], [], []⟩]
def C_isNaN : AC := (.seq (.reg false [⟨(some 2), none, .mv (.v (.bool false))⟩] (some ⟨[0], [], []⟩))
  (.seq (.reg false [⟨(some 3), none, .mv (.t 0)⟩, ⟨(some 4), none, .mv (.t 0)⟩, ⟨(some 5), none, .bin .neq (.t 3) (.t 4)⟩, ⟨(some 2), none, .mv (.t 5)⟩] (some ⟨[2], [], []⟩))
  .ret))
theorem c_isNaN : compileCode Tryd.prog Tryd.f75.ntmps (Tryd.f75.body.getD .skip) A_isNaN = some (C_isNaN, []) := by kernel_rfl
theorem r_isNaN : compileRes Tryd.prog Tryd.f75.results.toList = some [.t 2] := by kernel_rfl
theorem b_isNaN : Tryd.f75.body = some (Tryd.f75.body.getD .skip) := by kernel_rfl
theorem n_isNaN : (Tryd.f75.name == "runtime.NumGoroutine") = false := by kernel_rfl
theorem fc_isNaN {xt : Option (List Cel)} {args : List Val} {R : List Cel → Val → Prop} (hn : (if xt.isSome then 1 else 0) + args.length ≤ Tryd.f75.ntmps) (h : ex Tryd.prog C_isNaN [] (fpost xt [.t 2] R) (initSt xt args)) : FC Tryd.prog 75 xt args R :=
  fc_of_awp Tryd.func75 b_isNaN n_isNaN c_isNaN r_isNaN (of_decide_eq_true (by kernel_rfl)) hn h

def A_far : List Ann := [⟨(some ⟨[0,1], [], []⟩), [], [], [], []⟩, ⟨(some ⟨[4], [], []⟩), [], [], [], []⟩]
def C_far : AC := (.seq (.reg false [⟨(some 4), none, .mv (.v (.int .i64 (0)))⟩] (some ⟨[0,1], [], []⟩))
  (.seq (.reg false [⟨(some 5), none, .mv (.t 0)⟩, ⟨(some 6), none, .mv (.t 1)⟩, ⟨(some 7), none, .bin .sub (.t 5) (.t 6)⟩, ⟨(some 8), none, .mv (.t 1)⟩, ⟨(some 9), none, .mv (.t 0)⟩, ⟨(some 10), none, .bin .sub (.t 8) (.t 9)⟩, ⟨(some 11), none, .mnx true (.t 7) (.t 10)⟩, ⟨(some 4), none, .mv (.t 11)⟩] (some ⟨[4], [], []⟩))
  .ret))
theorem c_far : compileCode Tryd.prog Tryd.f37.ntmps (Tryd.f37.body.getD .skip) A_far = some (C_far, []) := by kernel_rfl
theorem r_far : compileRes Tryd.prog Tryd.f37.results.toList = some [.t 4] := by kernel_rfl
theorem b_far : Tryd.f37.body = some (Tryd.f37.body.getD .skip) := by kernel_rfl
theorem n_far : (Tryd.f37.name == "runtime.NumGoroutine") = false := by kernel_rfl
theorem fc_far {xt : Option (List Cel)} {args : List Val} {R : List Cel → Val → Prop} (hn : (if xt.isSome then 1 else 0) + args.length ≤ Tryd.f37.ntmps) (h : ex Tryd.prog C_far [] (fpost xt [.t 4] R) (initSt xt args)) : FC Tryd.prog 37 xt args R :=
  fc_of_awp Tryd.func37 b_far n_far c_far r_far (of_decide_eq_true (by kernel_rfl)) hn h

def A_limitFault : List Ann := [⟨(some ⟨[0], [], []⟩), [], [], [], []⟩, ⟨(some ⟨[2], [], []⟩), [], [], [], []⟩]
def C_limitFault : AC := (.seq (.reg false [⟨(some 2), none, .mv (.v (.int .i64 (0)))⟩] (some ⟨[0], [], []⟩))
  (.seq (.reg false [⟨(some 3), none, .mv (.t 0)⟩, ⟨(some 4), none, .call (.f 12) [(.t 3), (.v (.int .i64 (-1000000))), (.v (.int .i64 (1000000)))]⟩, ⟨(some 2), none, .mv (.t 4)⟩] (some ⟨[2], [], []⟩))
  .ret))
theorem c_limitFault : compileCode Tryd.prog Tryd.f40.ntmps (Tryd.f40.body.getD .skip) A_limitFault = some (C_limitFault, []) := by kernel_rfl
theorem r_limitFault : compileRes Tryd.prog Tryd.f40.results.toList = some [.t 2] := by kernel_rfl
theorem b_limitFault : Tryd.f40.body = some (Tryd.f40.body.getD .skip) := by kernel_rfl
theorem n_limitFault : (Tryd.f40.name == "runtime.NumGoroutine") = false := by kernel_rfl
theorem fc_limitFault {xt : Option (List Cel)} {args : List Val} {R : List Cel → Val → Prop} (hn : (if xt.isSome then 1 else 0) + args.length ≤ Tryd.f40.ntmps) (h : ex Tryd.prog C_limitFault [] (fpost xt [.t 2] R) (initSt xt args)) : FC Tryd.prog 40 xt args R :=
  fc_of_awp Tryd.func40 b_limitFault n_limitFault c_limitFault r_limitFault (of_decide_eq_true (by kernel_rfl)) hn h



/-- On which side of a limit a value is. -/
def sd (L v : Int) : Int := if v < L then -1 else if v > L then 1 else 0
theorem sd_cases (L v : Int) : (v < L ∧ sd L v = -1) ∨ (v > L ∧ sd L v = 1) ∨ (v = L ∧ sd L v = 0) := by
  unfold sd; split
  · left; exact ⟨by omega, rfl⟩
  · split
    · right; left; exact ⟨by omega, rfl⟩
    · right; right; exact ⟨by omega, rfl⟩
theorem isNaN_fc (n : Int) : FC Tryd.prog 75 none [iv n] (fun _ r => r = bv false) := by
  refine fc_isNaN (by simp +arith) ?_
  unfold C_isNaN
  simp (maxSteps := 1000000) (disch := omega) only [go_sem, eq_self, decide_true, decide_false, not_true_eq_false, not_false_eq_true, reduceIte, reduceCtorEq, Nat.reduceEqDiff, Nat.reduceAdd, Nat.reduceSub, Nat.reduceLeDiff]
  rw [decide_eq_false (by simp)]
theorem far_fc (a b : Int) (h1 : -4611686018427387904 ≤ a - b) (h2 : a - b ≤ 4611686018427387904) : FC Tryd.prog 37 none [iv a, iv b] (fun _ r => r = iv (max (a - b) (b - a))) := by
  refine fc_far (by simp +arith) ?_
  unfold C_far
  simp (maxSteps := 1000000) (disch := omega) only [go_sem, eq_self, decide_true, decide_false, not_true_eq_false, not_false_eq_true, reduceIte, reduceCtorEq, Nat.reduceEqDiff, Nat.reduceAdd, Nat.reduceSub, Nat.reduceLeDiff]
def frC (x : Int × Int) : List Cel := [.g (.int .i64 x.1), .g (.int .i64 x.2)]
theorem frC_eq (x : Int × Int) : frC x = [.g (.int .i64 x.1), .g (.int .i64 x.2)] := (rfl)
theorem frE_fr (l : List (Int × Int)) : frE (l.map frC) = true := frE_map (fun _ => rfl) l
theorem datE_fr (l : List (Int × Int)) : datE (l.map frC) = l.map frC := datE_map (fun _ => rfl) l
theorem tofE_fr (l : List (Int × Int)) : tofE (l.map frC) = l.map frC := tofE_map (fun _ => rfl) l
attribute [go_sem] frC_eq frE_fr datE_fr tofE_fr
abbrev frsV (fr : Bool) (l : List (Int × Int)) : Val := .one (.sl fr 2 (l.map frC))
/-- The crossing between two samples of which the second one is on the other side. -/
def crN (L : Int) (a b : Smp) : Int := a.a * max (b.v - a.v) (a.v - b.v) + (b.a - a.a) * max (L - a.v) (a.v - L)
def crD (a b : Smp) : Int := max (b.v - a.v) (a.v - b.v)
def crP (L : Int) (a : Smp) (nx : Option Int) (b : Smp) : Int × Int :=
  match nx with
  | some t => (t, 1)
  | none => (crN L a b, crD a b)
def emit (L f t : Int) (a : Smp) (nx : Option Int) (b : Smp) : List (Int × Int) :=
  if a.q ≠ 2 ∧ b.q ≠ 2 ∧ sd L a.v * sd L b.v < 0 then (if f * (crP L a nx b).2 ≤ (crP L a nx b).1 ∧ (crP L a nx b).1 < t * (crP L a nx b).2 then [(lowN (crP L a nx b).1 (crP L a nx b).2, lowD (crP L a nx b).1 (crP L a nx b).2)] else []) else []
def emitO (L f t : Int) : Option (Smp × Option Int) → Smp → List (Int × Int)
  | none, _ => []
  | some p, s => emit L f t p.1 p.2 s
def crGo (L f t : Int) : Option (Smp × Option Int) → List Smp → List (Int × Int)
  | _, [] => []
  | st, s :: r => if s.q = 2 then crGo L f t none r else if sd L s.v ≠ 0 then emitO L f t st s ++ crGo L f t (some (s, none)) r
    else crGo L f t (st.map fun p => (p.1, some (p.2.getD s.a))) r
def inn (L f t : Int) (a : Smp) : Option Int → List Smp → List (Int × Int)
  | _, [] => []
  | nx, b :: r => if b.q ≠ 2 ∧ b.v = L then inn L f t a (some (nx.getD b.a)) r else emit L f t a nx b
def refGo (L f t : Int) : List Smp → List (Int × Int)
  | [] => []
  | a :: r => inn L f t a none r ++ refGo L f t r
theorem inn_nil {L f t : Int} {a : Smp} (h : a.q = 2 ∨ sd L a.v = 0) : ∀ (l : List Smp) (nx : Option Int), inn L f t a nx l = []
  | [], nx => rfl
  | b :: r, nx => by
    rw [inn, inn_nil h r]
    split
    · rfl
    · unfold emit; rw [if_neg]
      rintro ⟨h1, h2, h3⟩
      rcases h with h | h
      · exact h1 h
      · rw [h, Int.zero_mul] at h3; omega
theorem crGo_eq (L f t : Int) : ∀ (l : List Smp) (st : Option (Smp × Option Int)), (∀ p, st = some p → p.1.q ≠ 2 ∧ sd L p.1.v ≠ 0) → crGo L f t st l = (match st with | none => [] | some p => inn L f t p.1 p.2 l) ++ refGo L f t l
  | [], st, h => by cases st <;> rfl
  | s :: r, st, h => by
    rw [crGo, refGo]
    by_cases h1 : s.q = 2
    · rw [if_pos h1, crGo_eq L f t r none (fun p hp => by cases hp), inn_nil (.inl h1)]
      cases st with
      | none => rfl
      | some p =>
        have e : emit L f t p.1 p.2 s = [] := by unfold emit; rw [if_neg]; rintro ⟨_, h2, _⟩; exact h2 h1
        have e2 : inn L f t p.1 p.2 (s :: r) = [] := by rw [inn, if_neg (fun h2 => h2.1 h1), e]
        simp only [e2, List.nil_append]
    · rw [if_neg h1]
      by_cases h2 : sd L s.v ≠ 0
      · rw [if_pos h2, crGo_eq L f t r (some (s, none)) (fun p hp => by injection hp with hp; subst hp; exact ⟨h1, h2⟩)]
        cases st with
        | none => rfl
        | some p =>
          have e2 : inn L f t p.1 p.2 (s :: r) = emit L f t p.1 p.2 s := by
            rw [inn, if_neg]; rintro ⟨_, h3⟩; apply h2; unfold sd; rw [if_neg (by omega), if_neg (by omega)]
          simp only [e2, emitO]
      · rw [if_neg h2, inn_nil (.inr (by omega))]
        have h3 : s.v = L := by rcases sd_cases L s.v with h | h | h <;> omega
        cases st with
        | none => rw [Option.map_none, crGo_eq L f t r none (fun p hp => by cases hp)]; rfl
        | some p =>
          rw [Option.map_some, crGo_eq L f t r _ (fun q hq => by injection hq with hq; subst hq; exact h p rfl)]
          have e2 : inn L f t p.1 p.2 (s :: r) = inn L f t p.1 (some (p.2.getD s.a)) r := by rw [inn, if_pos ⟨h1, h3⟩]
          simp only [e2, List.nil_append]
theorem cr_ref (L f t : Int) (l : List Smp) : crGo L f t none l = refGo L f t l := crGo_eq L f t l none (fun p hp => by cases hp)
/-- What lies behind sample number i, if k is further on. -/
def nxt (l : List Smp) (i k : Int) : Option Int := if k > i + 1 then some (l.getD (i + 1).toNat default).a else none
def opp (L : Int) (a b : Smp) : Prop := (a.v < L ∧ L < b.v) ∨ (L < a.v ∧ b.v < L)
theorem opp_of {L : Int} {a b : Smp} (h : sd L a.v * sd L b.v < 0) : opp L a b := by
  unfold opp
  rcases sd_cases L a.v with ⟨h1, e1⟩ | ⟨h1, e1⟩ | ⟨h1, e1⟩ <;> rcases sd_cases L b.v with ⟨h2, e2⟩ | ⟨h2, e2⟩ | ⟨h2, e2⟩ <;> rw [e1, e2] at h <;> omega
theorem crN_bd {L : Int} {a b : Smp} (ha : okSmp a) (hb : okSmp b) (hL : -1000000 ≤ L ∧ L ≤ 1000000) (hlt : a.a < b.a) (ho : opp L a b) :
    (0 ≤ a.a * crD a b ∧ a.a * crD a b ≤ 700000000000000000) ∧ (0 ≤ (b.a - a.a) * max (L - a.v) (a.v - L) ∧ (b.a - a.a) * max (L - a.v) (a.v - L) ≤ 700000000000000000) ∧ 1 ≤ crD a b ∧ crD a b ≤ 2000000 := by
  obtain ⟨a1, a2, a3, a4, a5, a6⟩ := ha
  obtain ⟨b1, b2, b3, b4, b5, b6⟩ := hb
  have hd : 1 ≤ crD a b ∧ crD a b ≤ 2000000 := by unfold crD; unfold opp at ho; omega
  have e1 := mul_bd (a := a.a) (b := crD a b) (A := 345686400000) (B := 2000000) ⟨by omega, by omega⟩ ⟨by omega, by omega⟩
  have e2 := mul_bd (a := b.a - a.a) (b := max (L - a.v) (a.v - L)) (A := 345686400000) (B := 2000000) ⟨by omega, by omega⟩ ⟨by omega, by omega⟩
  have e3 : 0 ≤ a.a * crD a b := Int.mul_nonneg a1 (by omega)
  have e4 : 0 ≤ (b.a - a.a) * max (L - a.v) (a.v - L) := Int.mul_nonneg (by omega) (by omega)
  omega
end Go.Proofs.YtggbcgldnjmobaaDoor


/-
  Buckets.
-/
import Derived.Test.YtggbcgldnjmobaaInt
namespace Go.Proofs.Ytggbcgldnjmobaa
open Go Go.Ai
set_option linter.unusedSimpArgs false
set_option linter.unusedVariables false
set_option maxHeartbeats 4000000
def A_buckets : List Ann := [⟨(some ⟨[0,2,4], [4], []⟩), [], [], [], []⟩, ⟨(some ⟨[0,2,4,8], [4], []⟩), [], [], [], []⟩, ⟨(some ⟨[0,2,4,8,22], [4], []⟩), [], [], [], []⟩, ⟨(some ⟨[6,7], [], []⟩), [], [], [(6, 7)], []⟩, ⟨(some ⟨[0,2,4,9], [4], []⟩), [], [], [], []⟩, ⟨(some ⟨[0,2,4,9,28], [4], []⟩), [], [], [], []⟩, ⟨(some ⟨[6,7], [], []⟩), [], [], [(6, 7)], []⟩, ⟨(some ⟨[0,2,4,10], [4], []⟩), [(10, 94, 7)], [], [], []⟩, ⟨(some ⟨[0,2,4,10,11], [4], [10]⟩), [], [], [], []⟩, ⟨(some ⟨[0,2,4,10,11,35], [4], [10]⟩), [], [], [], []⟩, ⟨(some ⟨[0,2,4,10,11,12], [4,12], [10]⟩), [], [], [], []⟩, ⟨(some ⟨[0,2,4,10,11,12,13], [4,12,13], [10]⟩), [], [], [], []⟩, ⟨(some ⟨[0,2,4,10,11,12,13,14], [4,12,13], [10]⟩), [], [], [], []⟩, ⟨(some ⟨[0,2,4,10,11,13,15], [4,13], [10]⟩), [], [], [], []⟩, ⟨(some ⟨[0,2,4,10,11,13,15,68], [4,13], [10]⟩), [], [], [], []⟩, ⟨(some ⟨[0,2,4,10,11,13,15,16,17], [4,13], [10]⟩), [], [], [], []⟩, ⟨(some ⟨[0,2,4,10,11,13,15], [4,13], [10]⟩), [], [], [], []⟩, ⟨(some ⟨[0,2,4,10,11,13], [4,13], [10]⟩), [], [], [], []⟩, ⟨(some ⟨[0,2,4,10,11], [4], [10]⟩), [], [], [], []⟩, ⟨(some ⟨[0,2,4,10,11], [4], [10]⟩), [], [], [], []⟩, ⟨(some ⟨[6,7], [], []⟩), [], [], [], []⟩]
def C_buckets : AC := (.seq (.reg false [⟨(some 4), none, .box (.t 1)⟩, ⟨(some 6), none, .mv (.v (.slice none 0 0))⟩, ⟨(some 7), none, .mv (.v (.int .i64 (0)))⟩] (some ⟨[0,2,4], [4], []⟩))
  (.seq (.seq (.reg false [⟨(some 18), none, .mv (.t 0)⟩, ⟨(some 19), none, .load true 2 (.t 4)⟩, ⟨(some 20), none, .call (.f 110) [(.t 18), (.t 19)]⟩, ⟨(some 8), none, .mv (.t 20)⟩] (some ⟨[0,2,4,8], [4], []⟩))
  (.seq (.reg false [⟨(some 21), none, .mv (.t 8)⟩, ⟨(some 22), none, .bin .neq (.t 21) (.v (.int .i64 (0)))⟩] (some ⟨[0,2,4,8,22], [4], []⟩))
  (.cond (.t 22)
  (.seq (.seq (.reg false [⟨(some 23), none, .mv (.t 8)⟩, ⟨(some 6), none, .mv (.v (.slice none 0 0))⟩, ⟨(some 7), none, .mv (.t 23)⟩] (some ⟨[6,7], [], []⟩))
  (.ty 6 7))
  .ret)
  .skip)))
  (.seq (.seq (.reg false [⟨(some 24), none, .load true 2 (.t 4)⟩, ⟨(some 25), none, .mv (.t 2)⟩, ⟨(some 26), none, .call (.f 111) [(.t 24), (.t 25)]⟩, ⟨(some 9), none, .mv (.t 26)⟩] (some ⟨[0,2,4,9], [4], []⟩))
  (.seq (.reg false [⟨(some 27), none, .mv (.t 9)⟩, ⟨(some 28), none, .bin .neq (.t 27) (.v (.int .i64 (0)))⟩] (some ⟨[0,2,4,9,28], [4], []⟩))
  (.cond (.t 28)
  (.seq (.seq (.reg false [⟨(some 29), none, .mv (.t 9)⟩, ⟨(some 6), none, .mv (.v (.slice none 0 0))⟩, ⟨(some 7), none, .mv (.t 29)⟩] (some ⟨[6,7], [], []⟩))
  (.ty 6 7))
  .ret)
  .skip)))
  (.seq (.seq (.reg false [⟨(some 10), none, .mv (.v (.slice none 0 0))⟩] (some ⟨[0,2,4,10], [4], []⟩))
  (.own 10 94 7))
  (.seq (.seq (.reg false [⟨(some 30), none, .fadr 0 (.t 4)⟩, ⟨(some 31), none, .load false 1 (.t 30)⟩, ⟨(some 11), none, .mv (.t 31)⟩] (some ⟨[0,2,4,10,11], [4], [10]⟩))
  (.block 0 (.loop (.seq (.seq (.reg false [⟨(some 32), none, .mv (.t 11)⟩, ⟨(some 33), none, .fadr 1 (.t 4)⟩, ⟨(some 34), none, .load false 1 (.t 33)⟩, ⟨(some 35), none, .bin .lss (.t 32) (.t 34)⟩] (some ⟨[0,2,4,10,11,35], [4], [10]⟩))
  (.cond (.t 35)
  .skip
  (.exit 0)))
  (.seq (.block 1 (.seq (.reg false [⟨(some 39), none, .mv (.t 11)⟩, ⟨(some 40), none, .fadr 1 (.t 4)⟩, ⟨(some 41), none, .load false 1 (.t 40)⟩, ⟨(some 42), none, .mv (.t 11)⟩, ⟨(some 43), none, .mv (.t 2)⟩, ⟨(some 44), none, .bin .add (.t 42) (.t 43)⟩, ⟨(some 45), none, .mnx false (.t 41) (.t 44)⟩, ⟨(some 46), none, .build [(.int .i64 (0)), (.int .i64 (0))] [(0, 1, (.t 39)), (1, 1, (.t 45))]⟩, ⟨(some 12), none, .alloc [(.int .i64 (0)), (.int .i64 (0))]⟩, ⟨none, none, .store 2 (.t 12) (.t 46)⟩] (some ⟨[0,2,4,10,11,12], [4,12], [10]⟩))
  (.seq (.reg false [⟨(some 47), none, .load true 2 (.t 12)⟩, ⟨(some 48), none, .build [(.int .i64 (0)), (.int .i64 (0)), (.int .i64 (0)), (.int .i64 (0)), (.int .i64 (0)), (.int .i64 (0)), (.int .i64 (0))] [(0, 2, (.t 47))]⟩, ⟨(some 13), none, .alloc [(.int .i64 (0)), (.int .i64 (0)), (.int .i64 (0)), (.int .i64 (0)), (.int .i64 (0)), (.int .i64 (0)), (.int .i64 (0))]⟩, ⟨none, none, .store 7 (.t 13) (.t 48)⟩] (some ⟨[0,2,4,10,11,12,13], [4,12,13], [10]⟩))
  (.seq (.reg false [⟨(some 49), none, .mv (.t 0)⟩, ⟨(some 50), none, .fadr 0 (.t 12)⟩, ⟨(some 51), none, .load false 1 (.t 50)⟩, ⟨(some 52), none, .call (.f 113) [(.t 49), (.t 51)]⟩, ⟨(some 53), none, .mnx true (.v (.int .i64 (0))) (.t 52)⟩, ⟨(some 14), none, .mv (.t 53)⟩] (some ⟨[0,2,4,10,11,12,13,14], [4,12,13], [10]⟩))
  (.seq (.seq (.reg true [⟨(some 54), none, .mv (.t 0)⟩, ⟨(some 55), none, .mv (.t 14)⟩, ⟨(some 56), none, .mv (.t 14)⟩, ⟨(some 57), none, .mv (.t 0)⟩, ⟨(some 58), none, .fadr 1 (.t 12)⟩, ⟨(some 59), none, .load false 1 (.t 58)⟩, ⟨(some 60), none, .call (.f 113) [(.t 57), (.t 59)]⟩, ⟨(some 61), none, .bin .add (.t 60) (.v (.int .i64 (1)))⟩, ⟨(some 62), none, .mnx true (.t 56) (.t 61)⟩, ⟨(some 63), none, .slc 3 (.t 54) (some (.t 55)) (some (.t 62))⟩, ⟨(some 64), none, .load true 2 (.t 12)⟩, ⟨(some 65), none, .call (.f 114) [(.t 63), (.t 64)]⟩, ⟨(some 15), none, .mv (.t 65)⟩] (some ⟨[0,2,4,10,11,13,15], [4,13], [10]⟩))
  (.seq (.reg false [⟨(some 66), none, .mv (.t 15)⟩, ⟨(some 67), none, .len (.t 66)⟩, ⟨(some 68), none, .bin .gtr (.t 67) (.v (.int .i64 (0)))⟩] (some ⟨[0,2,4,10,11,13,15,68], [4,13], [10]⟩))
  (.cond (.t 68)
  (.seq (.reg false [⟨(some 70), none, .mv (.t 15)⟩, ⟨(some 71), none, .call (.f 115) [(.t 70)]⟩, ⟨(some 69), none, .mv (.t 71)⟩, ⟨(some 72), none, .extr (.t 69) 0⟩, ⟨(some 73), none, .extr (.t 69) 1⟩, ⟨(some 16), none, .mv (.t 72)⟩, ⟨(some 17), none, .mv (.t 73)⟩] (some ⟨[0,2,4,10,11,13,15,16,17], [4,13], [10]⟩))
  (.seq (.reg false [⟨(some 74), none, .mv (.t 17)⟩, ⟨(some 75), none, .mv (.t 16)⟩, ⟨(some 76), none, .mv (.t 17)⟩, ⟨(some 77), none, .call (.f 116) [(.t 75), (.t 76)]⟩, ⟨(some 78), none, .fadr 2 (.t 13)⟩, ⟨none, none, .store 1 (.t 78) (.t 74)⟩, ⟨(some 79), none, .fadr 3 (.t 13)⟩, ⟨none, none, .store 2 (.t 79) (.t 77)⟩] (some ⟨[0,2,4,10,11,13,15], [4,13], [10]⟩))
  (.reg false [⟨(some 81), none, .mv (.t 15)⟩, ⟨(some 82), none, .call (.f 117) [(.t 81)]⟩, ⟨(some 80), none, .mv (.t 82)⟩, ⟨(some 83), none, .extr (.t 80) 0⟩, ⟨(some 84), none, .extr (.t 80) 1⟩, ⟨(some 85), none, .fadr 5 (.t 13)⟩, ⟨none, none, .store 1 (.t 85) (.t 83)⟩, ⟨(some 86), none, .fadr 6 (.t 13)⟩, ⟨none, none, .store 1 (.t 86) (.t 84)⟩] (some ⟨[0,2,4,10,11,13], [4,13], [10]⟩))))
  .skip)))
  (.reg false [⟨(some 87), none, .mv (.t 10)⟩, ⟨(some 88), none, .load true 7 (.t 13)⟩, ⟨(some 89), none, .bslice 7 1 [(.t 88)]⟩, ⟨(some 90), none, .append 94 7 56 (.t 87) (.t 89)⟩, ⟨(some 10), none, .mv (.t 90)⟩] (some ⟨[0,2,4,10,11], [4], [10]⟩)))))))
  (.reg false [⟨(some 36), none, .mv (.t 11)⟩, ⟨(some 37), none, .mv (.t 2)⟩, ⟨(some 38), none, .bin .add (.t 36) (.t 37)⟩, ⟨(some 11), none, .mv (.t 38)⟩] (some ⟨[0,2,4,10,11], [4], [10]⟩)))))))
  (.seq (.reg false [⟨(some 91), none, .mv (.t 10)⟩, ⟨(some 6), none, .mv (.t 91)⟩, ⟨(some 7), none, .mv (.v (.int .i64 (0)))⟩] (some ⟨[6,7], [], []⟩))
  .ret))))))
theorem c_buckets : compileCode Try.prog Try.f54.ntmps (Try.f54.body.getD .skip) A_buckets = some (C_buckets, []) := by kernel_rfl
theorem r_buckets : compileRes Try.prog Try.f54.results.toList = some [.t 6, .t 7] := by kernel_rfl
theorem b_buckets : Try.f54.body = some (Try.f54.body.getD .skip) := by kernel_rfl
theorem n_buckets : (Try.f54.name == "runtime.NumGoroutine") = false := by kernel_rfl
theorem fc_buckets {xt : Option (List Cel)} {args : List Val} {R : List Cel → Val → Prop} (hn : (if xt.isSome then 1 else 0) + args.length ≤ Try.f54.ntmps) (h : ex Try.prog C_buckets [] (fpost xt [.t 6, .t 7] R) (initSt xt args)) : FC Try.prog 54 xt args R :=
  fc_of_awp Try.func54 b_buckets n_buckets c_buckets r_buckets (of_decide_eq_true (by kernel_rfl)) hn h


theorem pcs_none (f t : Int) : ∀ l : List Smp, (∀ x ∈ l, t ≤ x.a) → pcsGo f t l = []
  | [], _ => rfl
  | [s], h => by have := h s (by simp); rw [pcsGo, if_neg (by omega)]
  | s :: s' :: r, h => by
    have := h s (by simp)
    rw [pcsGo, if_neg (by omega), pcs_none f t (s' :: r) (fun x hx => h x (by simp only [List.mem_cons] at hx ⊢; exact .inr hx))]; rfl
/-- Samples behind a window's end do not matter. -/
theorem pcs_take (f t : Int) : ∀ (l : List Smp) (k : Nat), (∀ j : Nat, k ≤ j → j < l.length → t < (l.getD j default).a) → pcsGo f t (l.take k) = pcsGo f t l
  | [], k, _ => by simp
  | l, 0, h => by
    rw [List.take_zero]
    symm
    refine pcs_none f t l (fun x hx => ?_)
    obtain ⟨j, hj, rfl⟩ := List.mem_iff_getElem.1 hx
    have := h j (by omega) hj
    simp only [List.getD_eq_getElem?_getD, hj, List.getElem?_eq_getElem, Option.getD_some] at this
    omega
  | [s], k + 1, _ => by simp
  | s :: s' :: r, 1, h => by
    have h1 := h 1 (by omega) (by simp)
    simp only [List.getD_cons_succ, List.getD_cons_zero] at h1
    have e : pcsGo f t (s' :: r) = [] := by
      have := pcs_take f t (s' :: r) 0 (fun j _ hj => by have := h (j + 1) (by omega) (by simpa using hj); simpa using this)
      rw [← this]; rfl
    rw [show (s :: s' :: r).take 1 = [s] from rfl, pcsGo, pcsGo, e, List.append_nil]
    have : min t s'.a = t := by omega
    rw [this]
  | s :: s' :: r, k + 2, h => by
    have ih := pcs_take f t (s' :: r) (k + 1) (fun j hj hj2 => by have := h (j + 1) (by omega) (by simpa using hj2); simpa using this)
    rw [show (s :: s' :: r).take (k + 2) = s :: s' :: r.take k from rfl, pcsGo, pcsGo]
    rw [show (s' :: r).take (k + 1) = s' :: r.take k from rfl] at ih
    rw [ih]
/-- Samples that are over before a window begins do not matter. -/
theorem pcs_drop (f t : Int) (l : List Smp) : ∀ g : Nat, (∀ j : Nat, j < g → j + 1 < l.length ∧ (l.getD (j + 1) default).a ≤ f) → pcsGo f t (l.drop g) = pcsGo f t l
  | 0, _ => by simp
  | g + 1, h => by
    have h1 := h g (by omega)
    rw [← pcs_drop f t l g (fun j hj => h j (by omega)), pcsGo_next f t l g h1.1, if_neg (by omega)]; rfl
theorem vals_sub {l : List Smp} (hg : Good l) {f t : Int} : vals f t ((l.take (max (max 0 (hold l f)) (hold l t + 1)).toNat).drop (max 0 (hold l f)).toNat) = vals f t l := by
  obtain ⟨a1, a2, a3, a4⟩ := hold_spec l f (fun i j h h' => hg.le i j h h')
  obtain ⟨b1, b2, b3, b4⟩ := hold_spec l t (fun i j h h' => hg.le i j h h')
  unfold vals
  congr 1
  rw [List.drop_take]
  rw [pcs_take]
  · refine pcs_drop f t l _ (fun j hj => ⟨by omega, a3 (j + 1) (by omega) (by omega)⟩)
  · intro j hj hj2
    rw [List.length_drop] at hj2
    have := b4 ((max 0 (hold l f)).toNat + j) (by omega) (by omega)
    simpa only [List.getD_eq_getElem?_getD, List.getElem?_drop] using this
/-- A bucket. -/
structure Bk where
  f : Int
  t : Int
  g : Int
  n : Int
  d : Int
  lo : Int
  hi : Int
  deriving Inhabited
def bkC (x : Bk) : List Cel := [.g (.int .i64 x.f), .g (.int .i64 x.t), .g (.int .i64 x.g), .g (.int .i64 x.n), .g (.int .i64 x.d), .g (.int .i64 x.lo), .g (.int .i64 x.hi)]
theorem bkC_eq (x : Bk) : bkC x = [.g (.int .i64 x.f), .g (.int .i64 x.t), .g (.int .i64 x.g), .g (.int .i64 x.n), .g (.int .i64 x.d), .g (.int .i64 x.lo), .g (.int .i64 x.hi)] := (rfl)
theorem frE_bk (l : List Bk) : frE (l.map bkC) = true := frE_map (fun _ => rfl) l
theorem datE_bk (l : List Bk) : datE (l.map bkC) = l.map bkC := datE_map (fun _ => rfl) l
theorem tofE_bk (l : List Bk) : tofE (l.map bkC) = l.map bkC := tofE_map (fun _ => rfl) l
attribute [go_sem] bkC_eq frE_bk datE_bk tofE_bk
abbrev bksV (fr : Bool) (l : List Bk) : Val := .one (.sl fr 7 (l.map bkC))
def bkOf (m : List Pc) (f t : Int) : Bk :=
  match m with
  | [] => ⟨f, t, 0, 0, 0, 0, 0⟩
  | p :: r => ⟨f, t, intT (p :: r), lowN (intS (p :: r)) (intT (p :: r)), lowD (intS (p :: r)) (intT (p :: r)), (minP p r).v, (maxP p r).v⟩
def bksGo (l : List Smp) (ev to : Int) : Nat → Int → List Bk
  | 0, _ => []
  | n + 1, a => if a < to then bkOf (vals a (min to (a + ev)) l) a (min to (a + ev)) :: bksGo l ev to n (a + ev) else []
theorem bksGo_fuel (l : List Smp) (ev to : Int) (he : 1 ≤ ev) : ∀ (n m : Nat) (a : Int), (to - a).toNat ≤ n → (to - a).toNat ≤ m → bksGo l ev to n a = bksGo l ev to m a
  | 0, 0, _, _, _ => rfl
  | 0, m + 1, a, h, _ => by rw [bksGo, bksGo, if_neg (by omega)]
  | n + 1, 0, a, _, h => by rw [bksGo, bksGo, if_neg (by omega)]
  | n + 1, m + 1, a, h, h' => by
    rw [bksGo, bksGo]
    by_cases ha : a < to
    · rw [if_pos ha, if_pos ha, bksGo_fuel l ev to he n m (a + ev) (by omega) (by omega)]
    · rw [if_neg ha, if_neg ha]
def bks (l : List Smp) (f t ev : Int) : List Bk := bksGo l ev t (t - f).toNat f
theorem bks_step (l : List Smp) (ev to a : Int) (he : 1 ≤ ev) (h : a < to) : bks l a to ev = bkOf (vals a (min to (a + ev)) l) a (min to (a + ev)) :: bks l (a + ev) to ev := by
  unfold bks
  obtain ⟨n, hn⟩ : ∃ n, (to - a).toNat = n + 1 := ⟨(to - a).toNat - 1, by omega⟩
  rw [hn, bksGo, if_pos h]
  congr 1
  exact bksGo_fuel l ev to he _ _ _ (by omega) (by omega)
theorem bks_end (l : List Smp) (ev to a : Int) (h : ¬ a < to) : bks l a to ev = [] := by
  unfold bks
  have : (to - a).toNat = 0 := by omega
  rw [this, bksGo]
def bksSp (l : List Smp) (f t ev : Int) : List Bk × Int := if ptsFault l f t ev ≠ 0 then ([], ptsFault l f t ev) else (bks l f t ev, 0)
def bktSt (l : List Smp) (f t ev a : Int) (acc : List Bk) : AS := ⟨tabV [(0, smps false l), (2, iv ev), (4, .one (.bx 4 0)), (10, .one (.ow 10 0)), (11, iv a)], tabO [(4, [.g (.int .i64 f), .g (.int .i64 t)])], tabO [(10, ⟨0, 94, 7, acc.map bkC⟩)]⟩
theorem buckets_fc (l : List Smp) (hl : l.length ≤ 4611686018427387904) (f t ev : Int) : FC Try.prog 54 none [smps false l, winV f t, iv ev] (fun _ r => r = .tu [bksV true (bksSp l f t ev).1, iv (bksSp l f t ev).2]) := by
  refine fc_buckets (by simp +arith) ?_
  unfold C_buckets bksSp ptsFault
  simp (maxSteps := 1000000) (disch := omega) only [go_sem, eq_self, decide_true, decide_false, not_true_eq_false, not_false_eq_true, reduceIte, reduceCtorEq, Nat.reduceEqDiff, Nat.reduceAdd, Nat.reduceSub, Nat.reduceLeDiff]
  refine CALL_det (fault_fc l hl f t) (.inl rfl) ?_
  by_cases h1 : bothFault l f t = 0
  · rw [if_neg (show ¬(bothFault l f t ≠ 0) by omega), h1]
    have hs := (bothFault_ok h1).1
    have hwf := (bothFault_ok h1).2
    have hw := winFault_ok hwf
    have hg := good_of hs
    have hlen := hg.len
    simp (maxSteps := 1000000) (disch := omega) only [go_sem, eq_self, decide_true, decide_false, not_true_eq_false, not_false_eq_true, reduceIte, reduceCtorEq, Nat.reduceEqDiff, Nat.reduceAdd, Nat.reduceSub, Nat.reduceLeDiff]
    refine CALL_det (everyFault_fc f t ev hwf) (.inl rfl) ?_
    by_cases h2 : evFault f t ev = 0
    · rw [if_neg (show ¬(evFault f t ev ≠ 0) by omega), h2]
      have he := evFault_ok h2
      simp (maxSteps := 1000000) (disch := omega) only [go_sem, eq_self, decide_true, decide_false, not_true_eq_false, not_false_eq_true, reduceIte, reduceCtorEq, Nat.reduceEqDiff, Nat.reduceAdd, Nat.reduceSub, Nat.reduceLeDiff]
      refine ex_loop2 (bktSt l f t ev) (fun a acc => f ≤ a ∧ a ≤ 345686400000 + 86400000 ∧ acc.length ≤ a - f ∧ acc ++ bks l a t ev = bks l f t ev) (fun a _ => (t - a).toNat) f [] ⟨by omega, by omega, by simp, by simp⟩ rfl ?_
      rintro a acc ⟨g1, g2, g3, g4⟩
      unfold bktSt
      by_cases ha : a < t
      · rw [bks_step l ev t a (by omega) ha] at g4
        have hsub := vals_sub hg (f := a) (t := min t (a + ev))
        have hml := vals_len a (min t (a + ev)) l
        have hc := vals_chain (show a ≤ min t (a + ev) by omega) hs
        obtain ⟨p1, p2, p3, p4⟩ := hold_spec l a (fun i j h h' => hg.le i j h h')
        obtain ⟨q1, q2, q3, q4⟩ := hold_spec l (min t (a + ev)) (fun i j h h' => hg.le i j h h')
        simp (maxSteps := 1000000) (disch := omega) only [go_sem, eq_self, decide_true, decide_false, not_true_eq_false, not_false_eq_true, reduceIte, reduceCtorEq, Nat.reduceEqDiff, Nat.reduceAdd, Nat.reduceSub, Nat.reduceLeDiff]
        refine CALL_det (last_fc l a hg (by omega)) (.inl rfl) ?_
        simp (maxSteps := 1000000) (disch := omega) only [go_sem, eq_self, decide_true, decide_false, not_true_eq_false, not_false_eq_true, reduceIte, reduceCtorEq, Nat.reduceEqDiff, Nat.reduceAdd, Nat.reduceSub, Nat.reduceLeDiff]
        refine CALL_det (last_fc l (min t (a + ev)) hg (by omega)) (.inl rfl) ?_
        simp (maxSteps := 1000000) (disch := omega) only [go_sem, eq_self, decide_true, decide_false, not_true_eq_false, not_false_eq_true, reduceIte, reduceCtorEq, Nat.reduceEqDiff, Nat.reduceAdd, Nat.reduceSub, Nat.reduceLeDiff]
        simp only [← List.map_take, ← List.map_drop]
        refine CALL_det (valued_fc ((l.take (max (max 0 (hold l a)) (hold l (min t (a + ev)) + 1)).toNat).drop (max 0 (hold l a)).toNat) (by simp; omega) a (min t (a + ev))) (.inl rfl) ?_
        rw [hsub]
        generalize vals a (min t (a + ev)) l = m at *
        cases m with
        | nil =>
          unfold bkOf at g4
          simp (maxSteps := 1000000) (disch := omega) only [go_sem, eq_self, decide_true, decide_false, not_true_eq_false, not_false_eq_true, reduceIte, reduceCtorEq, Nat.reduceEqDiff, Nat.reduceAdd, Nat.reduceSub, Nat.reduceLeDiff]
          exact ⟨a + ev, acc ++ [⟨a, min t (a + ev), 0, 0, 0, 0, 0⟩], by simp only [bktSt, List.map_append, List.map_cons, List.map_nil, bkC_eq], ⟨by omega, by omega, by simp; omega, by simpa using g4⟩, by omega⟩
        | cons p r =>
          have hb := int_bd hc
          have hp := intT_pos hc
          unfold bkOf at g4
          simp only [List.length_cons] at hml
          simp (maxSteps := 1000000) (disch := omega) only [go_sem, eq_self, decide_true, decide_false, not_true_eq_false, not_false_eq_true, reduceIte, reduceCtorEq, Nat.reduceEqDiff, Nat.reduceAdd, Nat.reduceSub, Nat.reduceLeDiff]
          refine CALL_det (integral_fc (p :: r) (by simp; omega) a (min t (a + ev)) hc ⟨by omega, by omega⟩) (.inl rfl) ?_
          simp (maxSteps := 1000000) (disch := omega) only [go_sem, eq_self, decide_true, decide_false, not_true_eq_false, not_false_eq_true, reduceIte, reduceCtorEq, Nat.reduceEqDiff, Nat.reduceAdd, Nat.reduceSub, Nat.reduceLeDiff]
          refine CALL_det (fraction_fc (intS (p :: r)) (intT (p :: r)) (by omega) (by omega) (by omega)) (.inl rfl) ?_
          simp (maxSteps := 1000000) (disch := omega) only [go_sem, eq_self, decide_true, decide_false, not_true_eq_false, not_false_eq_true, reduceIte, reduceCtorEq, Nat.reduceEqDiff, Nat.reduceAdd, Nat.reduceSub, Nat.reduceLeDiff]
          refine CALL_det (extremes_fc p r (by omega)) (.inl rfl) ?_
          simp (maxSteps := 1000000) (disch := omega) only [go_sem, eq_self, decide_true, decide_false, not_true_eq_false, not_false_eq_true, reduceIte, reduceCtorEq, Nat.reduceEqDiff, Nat.reduceAdd, Nat.reduceSub, Nat.reduceLeDiff]
          exact ⟨a + ev, acc ++ [⟨a, min t (a + ev), intT (p :: r), lowN (intS (p :: r)) (intT (p :: r)), lowD (intS (p :: r)) (intT (p :: r)), (minP p r).v, (maxP p r).v⟩], by simp only [bktSt, List.map_append, List.map_cons, List.map_nil, bkC_eq], ⟨by omega, by omega, by simp; omega, by simpa using g4⟩, by omega⟩
      · rw [bks_end l ev t a ha, List.append_nil] at g4
        simp (maxSteps := 1000000) (disch := omega) only [go_sem, eq_self, decide_true, decide_false, not_true_eq_false, not_false_eq_true, reduceIte, reduceCtorEq, Nat.reduceEqDiff, Nat.reduceAdd, Nat.reduceSub, Nat.reduceLeDiff]
        rw [g4]
    · rw [if_pos (show evFault f t ev ≠ 0 by omega)]
      simp (maxSteps := 1000000) (disch := omega) only [go_sem, eq_self, decide_true, decide_false, not_true_eq_false, not_false_eq_true, reduceIte, reduceCtorEq, Nat.reduceEqDiff, Nat.reduceAdd, Nat.reduceSub, Nat.reduceLeDiff]
      rfl
  · rw [if_pos (show bothFault l f t ≠ 0 by omega), if_pos (show bothFault l f t ≠ 0 by omega)]
    simp (maxSteps := 1000000) (disch := omega) only [go_sem, eq_self, decide_true, decide_false, not_true_eq_false, not_false_eq_true, reduceIte, reduceCtorEq, Nat.reduceEqDiff, Nat.reduceAdd, Nat.reduceSub, Nat.reduceLeDiff]
    rfl
end Go.Proofs.Ytggbcgldnjmobaa


/-
  The reference's way to map a moment: bit by bit.
-/
import Derived.Test.YtmbpfhpdicjpcaaMap
import Derived.Test.YtmbpfhpdicjpcaaFrh
namespace Go.Proofs.Ytmbpfhpdicjpcaa
open Go Go.Ai
set_option linter.unusedSimpArgs false
set_option linter.unusedVariables false
set_option maxHeartbeats 4000000
def A_scaled : List Ann := [⟨(some ⟨[0,1,2], [], []⟩), [], [], [], []⟩, ⟨(some ⟨[0,1,2,7,8], [], []⟩), [], [], [], []⟩, ⟨(some ⟨[0,1,2,7,8,9], [], []⟩), [], [], [], []⟩, ⟨(some ⟨[0,1,2,7,8,9,11], [], []⟩), [], [], [], []⟩, ⟨(some ⟨[0,1,2,7,8,9], [], []⟩), [], [], [], []⟩, ⟨(some ⟨[0,1,2,7,8,9,22], [], []⟩), [], [], [], []⟩, ⟨(some ⟨[0,1,2,7,8,9], [], []⟩), [], [], [], []⟩, ⟨(some ⟨[0,1,2,7,8,9,28], [], []⟩), [], [], [], []⟩, ⟨(some ⟨[0,1,2,7,8,9], [], []⟩), [], [], [], []⟩, ⟨(some ⟨[0,1,2,7,8,9], [], []⟩), [], [], [], []⟩, ⟨(some ⟨[0,1,2,7,8,9], [], []⟩), [], [], [], []⟩, ⟨(some ⟨[6], [], []⟩), [], [], [], []⟩]
def C_scaled : AC := (.seq (.reg false [⟨(some 6), none, .mv (.v (.int .i64 (0)))⟩] (some ⟨[0,1,2], [], []⟩))
  (.seq (.reg false [⟨(some 7), none, .mv (.v (.int .i64 (0)))⟩, ⟨(some 8), none, .mv (.v (.int .i64 (0)))⟩] (some ⟨[0,1,2,7,8], [], []⟩))
  (.seq (.seq (.reg false [⟨(some 9), none, .mv (.v (.int .i64 (62)))⟩] (some ⟨[0,1,2,7,8,9], [], []⟩))
  (.block 0 (.loop (.seq (.seq (.reg false [⟨(some 10), none, .mv (.t 9)⟩, ⟨(some 11), none, .bin .geq (.t 10) (.v (.int .i64 (0)))⟩] (some ⟨[0,1,2,7,8,9,11], [], []⟩))
  (.cond (.t 11)
  .skip
  (.exit 0)))
  (.seq (.block 1 (.seq (.reg false [⟨(some 14), none, .mv (.t 7)⟩, ⟨(some 15), none, .bin .mul (.v (.int .i64 (2))) (.t 14)⟩, ⟨(some 16), none, .mv (.t 8)⟩, ⟨(some 17), none, .bin .mul (.v (.int .i64 (2))) (.t 16)⟩, ⟨(some 7), none, .mv (.t 15)⟩, ⟨(some 8), none, .mv (.t 17)⟩] (some ⟨[0,1,2,7,8,9], [], []⟩))
  (.seq (.seq (.reg false [⟨(some 18), none, .mv (.t 1)⟩, ⟨(some 19), none, .mv (.t 9)⟩, ⟨(some 20), none, .bin .shr (.t 18) (.t 19)⟩, ⟨(some 21), none, .bin .and (.t 20) (.v (.int .i64 (1)))⟩, ⟨(some 22), none, .bin .eql (.t 21) (.v (.int .i64 (1)))⟩] (some ⟨[0,1,2,7,8,9,22], [], []⟩))
  (.cond (.t 22)
  (.reg false [⟨(some 23), none, .mv (.t 8)⟩, ⟨(some 24), none, .mv (.t 0)⟩, ⟨(some 25), none, .bin .add (.t 23) (.t 24)⟩, ⟨(some 8), none, .mv (.t 25)⟩] (some ⟨[0,1,2,7,8,9], [], []⟩))
  .skip))
  (.block 2 (.loop (.seq (.seq (.reg false [⟨(some 26), none, .mv (.t 8)⟩, ⟨(some 27), none, .mv (.t 2)⟩, ⟨(some 28), none, .bin .geq (.t 26) (.t 27)⟩] (some ⟨[0,1,2,7,8,9,28], [], []⟩))
  (.cond (.t 28)
  .skip
  (.exit 2)))
  (.block 3 (.seq (.reg false [⟨(some 29), none, .mv (.t 7)⟩, ⟨(some 30), none, .bin .add (.t 29) (.v (.int .i64 (1)))⟩, ⟨(some 7), none, .mv (.t 30)⟩] (some ⟨[0,1,2,7,8,9], [], []⟩))
  (.reg false [⟨(some 31), none, .mv (.t 8)⟩, ⟨(some 32), none, .mv (.t 2)⟩, ⟨(some 33), none, .bin .sub (.t 31) (.t 32)⟩, ⟨(some 8), none, .mv (.t 33)⟩] (some ⟨[0,1,2,7,8,9], [], []⟩))))))))))
  (.reg false [⟨(some 12), none, .mv (.t 9)⟩, ⟨(some 13), none, .bin .sub (.t 12) (.v (.int .i64 (1)))⟩, ⟨(some 9), none, .mv (.t 13)⟩] (some ⟨[0,1,2,7,8,9], [], []⟩)))))))
  (.seq (.reg false [⟨(some 34), none, .mv (.t 7)⟩, ⟨(some 6), none, .mv (.t 34)⟩] (some ⟨[6], [], []⟩))
  .ret))))
theorem c_scaled : compileCode Try.prog Try.f151.ntmps (Try.f151.body.getD .skip) A_scaled = some (C_scaled, []) := by kernel_rfl
theorem r_scaled : compileRes Try.prog Try.f151.results.toList = some [.t 6] := by kernel_rfl
theorem b_scaled : Try.f151.body = some (Try.f151.body.getD .skip) := by kernel_rfl
theorem n_scaled : (Try.f151.name == "runtime.NumGoroutine") = false := by kernel_rfl
theorem fc_scaled {xt : Option (List Cel)} {args : List Val} {R : List Cel → Val → Prop} (hn : (if xt.isSome then 1 else 0) + args.length ≤ Try.f151.ntmps) (h : ex Try.prog C_scaled [] (fpost xt [.t 6] R) (initSt xt args)) : FC Try.prog 151 xt args R :=
  fc_of_awp Try.func151 b_scaled n_scaled c_scaled r_scaled (of_decide_eq_true (by kernel_rfl)) hn h

def A_mappedTo : List Ann := [⟨(some ⟨[0,1,2], [], []⟩), [], [], [], []⟩, ⟨(some ⟨[1,2,11,12,13], [], []⟩), [], [], [], []⟩, ⟨(some ⟨[1,2,11,12,13,14], [], []⟩), [], [], [], []⟩, ⟨(some ⟨[1,2,8,9,11,12,13], [9], []⟩), [], [], [], []⟩, ⟨(some ⟨[1,2,8,9,10,11,12,13], [9,10], []⟩), [], [], [], []⟩, ⟨(some ⟨[1,2,8,10,11,12,13,42], [10], []⟩), [], [], [], []⟩, ⟨(some ⟨[6,7], [], []⟩), [], [], [], []⟩, ⟨(some ⟨[1,2,11,12,13], [], []⟩), [], [], [], []⟩, ⟨(some ⟨[6,7], [], []⟩), [], [], [], []⟩]
def C_mappedTo : AC := (.seq (.reg false [⟨(some 6), none, .mv (.v (.int .i64 (0)))⟩, ⟨(some 7), none, .mv (.v (.bool false))⟩] (some ⟨[0,1,2], [], []⟩))
  (.seq (.seq (.reg false [⟨(some 11), none, .mv (.t 0)⟩, ⟨(some 12), none, .len (.t 11)⟩, ⟨(some 13), none, .mv (.v (.int .i64 (0)))⟩] (some ⟨[1,2,11,12,13], [], []⟩))
  (.block 0 (.loop (.seq (.reg false [⟨(some 14), none, .bin .lss (.t 13) (.t 12)⟩] (some ⟨[1,2,11,12,13,14], [], []⟩))
  (.seq (.cond (.t 14)
  .skip
  (.exit 0))
  (.seq (.block 1 (.seq (.reg false [⟨(some 15), none, .mv (.t 13)⟩, ⟨(some 16), none, .iadr 3 (.t 11) (.t 13)⟩, ⟨(some 17), none, .load true 3 (.t 16)⟩, ⟨(some 9), none, .alloc [(.int .i64 (0)), (.int .i64 (0)), (.int .i64 (0))]⟩, ⟨(some 8), none, .mv (.t 15)⟩, ⟨none, none, .store 3 (.t 9) (.t 17)⟩] (some ⟨[1,2,8,9,11,12,13], [9], []⟩))
  (.seq (.reg false [⟨(some 18), none, .fadr 1 (.t 9)⟩, ⟨(some 19), none, .load true 2 (.t 18)⟩, ⟨(some 10), none, .alloc [(.int .i64 (0)), (.int .i64 (0))]⟩, ⟨none, none, .store 2 (.t 10) (.t 19)⟩] (some ⟨[1,2,8,9,10,11,12,13], [9,10], []⟩))
  (.seq (.reg true [⟨(some 20), none, .mv (.t 2)⟩, ⟨(some 21), none, .fadr 0 (.t 10)⟩, ⟨(some 22), none, .load false 1 (.t 21)⟩, ⟨(some 23), none, .fadr 1 (.t 10)⟩, ⟨(some 24), none, .load false 1 (.t 23)⟩, ⟨(some 25), none, .bin .sub (.t 24) (.v (.int .i64 (1)))⟩, ⟨(some 26), none, .call (.f 95) [(.t 20), (.t 22), (.t 25)]⟩, ⟨(some 27), none, .mv (.t 26)⟩, ⟨(some 28), (some (27, true)), .mv (.t 8)⟩, ⟨(some 29), (some (27, true)), .mv (.t 1)⟩, ⟨(some 30), (some (27, true)), .len (.t 29)⟩, ⟨(some 31), (some (27, true)), .bin .lss (.t 28) (.t 30)⟩, ⟨(some 32), none, .pick (.t 27) (.t 31) (.v (.bool false))⟩, ⟨(some 33), none, .mv (.t 32)⟩, ⟨(some 34), (some (33, true)), .mv (.t 1)⟩, ⟨(some 35), (some (33, true)), .mv (.t 8)⟩, ⟨(some 36), (some (33, true)), .iadr 3 (.t 34) (.t 35)⟩, ⟨(some 37), (some (33, true)), .fadr 0 (.t 36)⟩, ⟨(some 38), (some (33, true)), .load false 1 (.t 37)⟩, ⟨(some 39), (some (33, true)), .fadr 0 (.t 9)⟩, ⟨(some 40), (some (33, true)), .load false 1 (.t 39)⟩, ⟨(some 41), (some (33, true)), .bin .eql (.t 38) (.t 40)⟩, ⟨(some 42), none, .pick (.t 33) (.t 41) (.v (.bool false))⟩] (some ⟨[1,2,8,10,11,12,13,42], [10], []⟩))
  (.cond (.t 42)
  (.seq (.reg true [⟨(some 43), none, .mv (.t 1)⟩, ⟨(some 44), none, .mv (.t 8)⟩, ⟨(some 45), none, .iadr 3 (.t 43) (.t 44)⟩, ⟨(some 46), none, .fadr 1 (.t 45)⟩, ⟨(some 47), none, .fadr 0 (.t 46)⟩, ⟨(some 48), none, .load false 1 (.t 47)⟩, ⟨(some 49), none, .mv (.t 2)⟩, ⟨(some 50), none, .fadr 0 (.t 10)⟩, ⟨(some 51), none, .load false 1 (.t 50)⟩, ⟨(some 52), none, .bin .sub (.t 49) (.t 51)⟩, ⟨(some 53), none, .mv (.t 1)⟩, ⟨(some 54), none, .mv (.t 8)⟩, ⟨(some 55), none, .iadr 3 (.t 53) (.t 54)⟩, ⟨(some 56), none, .fadr 1 (.t 55)⟩, ⟨(some 57), none, .load true 2 (.t 56)⟩, ⟨(some 58), none, .call (.f 104) [(.t 57)]⟩, ⟨(some 59), none, .load true 2 (.t 10)⟩, ⟨(some 60), none, .call (.f 104) [(.t 59)]⟩, ⟨(some 61), none, .call (.f 151) [(.t 52), (.t 58), (.t 60)]⟩, ⟨(some 62), none, .bin .add (.t 48) (.t 61)⟩, ⟨(some 6), none, .mv (.t 62)⟩, ⟨(some 7), none, .mv (.v (.bool true))⟩] (some ⟨[6,7], [], []⟩))
  .ret)
  .skip)))))
  (.reg false [⟨(some 63), none, .bin .add (.t 13) (.v (.int .i64 (1)))⟩, ⟨(some 13), none, .mv (.t 63)⟩] (some ⟨[1,2,11,12,13], [], []⟩))))))))
  (.seq (.reg false [⟨(some 6), none, .mv (.v (.int .i64 (0)))⟩, ⟨(some 7), none, .mv (.v (.bool false))⟩] (some ⟨[6,7], [], []⟩))
  .ret)))
theorem c_mappedTo : compileCode Try.prog Try.f88.ntmps (Try.f88.body.getD .skip) A_mappedTo = some (C_mappedTo, []) := by kernel_rfl
theorem r_mappedTo : compileRes Try.prog Try.f88.results.toList = some [.t 6, .t 7] := by kernel_rfl
theorem b_mappedTo : Try.f88.body = some (Try.f88.body.getD .skip) := by kernel_rfl
theorem n_mappedTo : (Try.f88.name == "runtime.NumGoroutine") = false := by kernel_rfl
theorem fc_mappedTo {xt : Option (List Cel)} {args : List Val} {R : List Cel → Val → Prop} (hn : (if xt.isSome then 1 else 0) + args.length ≤ Try.f88.ntmps) (h : ex Try.prog C_mappedTo [] (fpost xt [.t 6, .t 7] R) (initSt xt args)) : FC Try.prog 88 xt args R :=
  fc_of_awp Try.func88 b_mappedTo n_mappedTo c_mappedTo r_mappedTo (of_decide_eq_true (by kernel_rfl)) hn h


theorem bits_and_i64_one (a : Nat) (ha : a < 9223372036854775808) : bits .and .i64 (a : Int) 1 = ((a % 2 : Nat) : Int) := by
  have h1 : (BitVec.ofInt 64 (a : Int)).toNat = a := by
    rw [BitVec.ofInt_natCast, BitVec.toNat_ofNat]; exact Nat.mod_eq_of_lt (by omega)
  have h2 : (BitVec.ofInt 64 (1 : Int)).toNat = 1 := by decide
  have h3 : a &&& 1 = a % 2 := Nat.and_one_is_mod a
  show IntKind.i64.wrap (((BitVec.ofInt 64 (a : Int)) &&& (BitVec.ofInt 64 (1 : Int))).toNat : Int) = _
  rw [BitVec.toNat_and, h1, h2, h3]
  exact wrap_i64 _ (by omega) (by omega)
/-- A number without its last bits. -/
def shB (b : Int) (n : Nat) : Int := b / 2 ^ n
theorem shB_step (b : Int) (n : Nat) : shB b n = 2 * shB b (n + 1) + shB b n % 2 := by
  have e : shB b (n + 1) = shB b n / 2 := by
    unfold shB
    rw [Int.pow_succ, Int.ediv_ediv_of_nonneg (Int.pow_nonneg (by omega))]
  omega
theorem shB_bd {b : Int} (hb : 0 ≤ b) (n : Nat) : 0 ≤ shB b n ∧ shB b n ≤ b := ⟨Int.ediv_nonneg hb (Int.pow_nonneg (by omega)), Int.ediv_le_self _ hb⟩
theorem shB_63 {b : Int} (hb : 0 ≤ b ∧ b ≤ 1000000) : shB b 63 = 0 := by unfold shB; omega
def scO (a b c : Int) (bit out rest : Int) : AS := ⟨tabV [(0, iv a), (1, iv b), (2, iv c), (7, iv out), (8, iv rest), (9, iv bit)], tabO [], tabO []⟩
theorem sc_le {out c rest a B : Int} (hc : 1 ≤ c) (ha : 0 ≤ a ∧ a < c) (hB : 0 ≤ B) (hr : 0 ≤ rest) (h : out * c + rest = a * B) : out ≤ B := by
  have h1 : a * B ≤ c * B := Int.mul_le_mul_of_nonneg_right (by omega) hB
  have h2 : out * c ≤ B * c := by rw [Int.mul_comm B c]; omega
  exact Int.le_of_mul_le_mul_right h2 (by omega)
theorem tab_any (k : Nat) : ∀ l : List (Nat × Val), (l.all fun x => decide (x.1 ≠ k)) = true → tabV (l ++ [(k, .any)]) = tabV l
  | [], _ => by funext n; simp only [List.nil_append, tabV, ite_self]
  | (j, v) :: l, h => by
    rw [List.all_cons, Bool.and_eq_true] at h
    have ih := tab_any k l h.2
    funext n
    rw [List.cons_append, tabV, tabV, ih]
def scE (a b c bit out rest : Int) (z : Val) : AS := ⟨tabV [(0, iv a), (1, iv b), (2, iv c), (7, iv out), (8, iv rest), (9, iv bit), (22, z)], tabO [], tabO []⟩
theorem scE_any (a b c bit out rest : Int) : scO a b c bit out rest = scE a b c bit out rest .any := by
  unfold scO scE
  have := tab_any 22 [(0, iv a), (1, iv b), (2, iv c), (7, iv out), (8, iv rest), (9, iv bit)] rfl
  rw [← this]; rfl
theorem scaled_fc (a b c : Int) (ha : 0 ≤ a ∧ a < c) (hb : 0 ≤ b ∧ b ≤ 1000000) (hc : c ≤ 1000000) : FC Try.prog 151 none [iv a, iv b, iv c] (fun _ r => r = iv (a * b / c)) := by
  refine fc_scaled (by simp +arith) ?_
  unfold C_scaled
  simp (maxSteps := 1000000) (disch := omega) only [go_sem, eq_self, decide_true, decide_false, not_true_eq_false, not_false_eq_true, reduceIte, reduceCtorEq, Nat.reduceEqDiff, Nat.reduceAdd, Nat.reduceSub, Nat.reduceLeDiff]
  refine ex_loop3 (scO a b c) (fun bit out rest => -1 ≤ bit ∧ bit ≤ 62 ∧ 0 ≤ out ∧ (0 ≤ rest ∧ rest < c) ∧ out * c + rest = a * shB b (bit + 1).toNat) (fun bit _ _ => (bit + 1).toNat) 62 0 0 ⟨by omega, by omega, by omega, by omega, by rw [show ((62 : Int) + 1).toNat = 63 from rfl, shB_63 hb]; simp⟩ rfl ?_
  rintro bit out rest ⟨g1, g2, g3, g4, g5⟩
  unfold scO
  by_cases hbit : 0 ≤ bit
  · have e1 : (bit + 1).toNat = bit.toNat + 1 := by omega
    have hs := shB_step b bit.toNat
    have hbd := shB_bd hb.1 bit.toNat
    have hbd2 := shB_bd hb.1 (bit.toNat + 1)
    rw [e1] at g5
    have hle := sc_le (by omega) ha hbd2.1 g4.1 g5
    have hfd : b.fdiv (2 ^ (min bit.toNat 64)) = shB b bit.toNat := by
      rw [show min bit.toNat 64 = bit.toNat by omega]
      exact Int.fdiv_eq_ediv_of_nonneg _ (Int.pow_nonneg (by omega))
    obtain ⟨n, hn⟩ := Int.eq_ofNat_of_zero_le hbd.1
    have hand : bits .and .i64 (shB b bit.toNat) 1 = shB b bit.toNat % 2 := by
      rw [hn, bits_and_i64_one n (by omega)]; omega
    have key : ∀ (s : AS) (o r : Int), 0 ≤ o → 0 ≤ r → r ≤ 3 * c → o * c + r = a * shB b bit.toNat → True := fun _ _ _ _ _ _ _ => trivial
    generalize hB : shB b bit.toNat = B at *
    generalize shB b (bit.toNat + 1) = B' at *
    by_cases hodd : B % 2 = 1
    · have hV : (2 * out) * c + (2 * rest + a) = a * B := by
        rw [hs, hodd, Int.mul_add, Int.mul_one, Int.mul_left_comm, ← g5, Int.mul_add, Int.mul_assoc]; omega
      simp (maxSteps := 1000000) (disch := omega) only [go_sem, eq_self, decide_true, decide_false, not_true_eq_false, not_false_eq_true, reduceIte, reduceCtorEq, Nat.reduceEqDiff, Nat.reduceAdd, Nat.reduceSub, Nat.reduceLeDiff]
      rw [hfd, hand, hodd]
      simp (maxSteps := 1000000) (disch := omega) only [go_sem, eq_self, decide_true, decide_false, not_true_eq_false, not_false_eq_true, reduceIte, reduceCtorEq, Nat.reduceEqDiff, Nat.reduceAdd, Nat.reduceSub, Nat.reduceLeDiff]
      refine ex_loop2 (fun o r => scO a b c bit o r) (fun o r => 0 ≤ o ∧ 0 ≤ r ∧ r ≤ 3 * c ∧ o * c + r = a * B) (fun _ r => r.toNat) (2 * out) (2 * rest + a) ⟨by omega, by omega, by omega, hV⟩ rfl ?_
      rintro o r ⟨k1, k2, k3, k4⟩
      have hle2 := sc_le (by omega) ha hbd.1 k2 k4
      unfold scO
      by_cases hr : c ≤ r
      · simp (maxSteps := 1000000) (disch := omega) only [go_sem, eq_self, decide_true, decide_false, not_true_eq_false, not_false_eq_true, reduceIte, reduceCtorEq, Nat.reduceEqDiff, Nat.reduceAdd, Nat.reduceSub, Nat.reduceLeDiff]
        exact ⟨o + 1, r - c, rfl, ⟨by omega, by omega, by omega, by rw [Int.add_mul, Int.one_mul]; omega⟩, by omega⟩
      · simp (maxSteps := 1000000) (disch := omega) only [go_sem, eq_self, decide_true, decide_false, not_true_eq_false, not_false_eq_true, reduceIte, reduceCtorEq, Nat.reduceEqDiff, Nat.reduceAdd, Nat.reduceSub, Nat.reduceLeDiff]
        exact ⟨bit - 1, o, r, rfl, ⟨by omega, by omega, k1, by omega, by rw [show (bit - 1 + 1).toNat = bit.toNat by omega, hB]; exact k4⟩, by omega⟩
    · have hV : (2 * out) * c + 2 * rest = a * B := by
        rw [hs, show B % 2 = 0 by omega, Int.add_zero, Int.mul_left_comm, ← g5, Int.mul_add, Int.mul_assoc]
      have hev : B % 2 = 0 := by omega
      simp (maxSteps := 1000000) (disch := omega) only [go_sem, eq_self, decide_true, decide_false, not_true_eq_false, not_false_eq_true, reduceIte, reduceCtorEq, Nat.reduceEqDiff, Nat.reduceAdd, Nat.reduceSub, Nat.reduceLeDiff]
      rw [hfd, hand, hev]
      refine ⟨fun h => absurd h (by omega), fun _ => ?_⟩
      refine ex_loop3 (fun o r z => scE a b c bit o r z) (fun o r _ => 0 ≤ o ∧ 0 ≤ r ∧ r ≤ 3 * c ∧ o * c + r = a * B) (fun _ r _ => r.toNat) (2 * out) (2 * rest) _ ⟨by omega, by omega, by omega, hV⟩ rfl ?_
      rintro o r z ⟨k1, k2, k3, k4⟩
      have hle2 := sc_le (by omega) ha hbd.1 k2 k4
      unfold scE
      by_cases hr : c ≤ r
      · simp (maxSteps := 1000000) (disch := omega) only [go_sem, eq_self, decide_true, decide_false, not_true_eq_false, not_false_eq_true, reduceIte, reduceCtorEq, Nat.reduceEqDiff, Nat.reduceAdd, Nat.reduceSub, Nat.reduceLeDiff]
        exact ⟨o + 1, r - c, .any, scE_any a b c bit (o + 1) (r - c), ⟨by omega, by omega, by omega, by rw [Int.add_mul, Int.one_mul]; omega⟩, by omega⟩
      · simp (maxSteps := 1000000) (disch := omega) only [go_sem, eq_self, decide_true, decide_false, not_true_eq_false, not_false_eq_true, reduceIte, reduceCtorEq, Nat.reduceEqDiff, Nat.reduceAdd, Nat.reduceSub, Nat.reduceLeDiff]
        exact ⟨bit - 1, o, r, rfl, ⟨by omega, by omega, k1, by omega, by rw [show (bit - 1 + 1).toNat = bit.toNat by omega, hB]; exact k4⟩, by omega⟩
  · have e : bit = -1 := by omega
    subst e
    have e0 : shB b ((-1 : Int) + 1).toNat = b := by unfold shB; simp
    rw [e0] at g5
    have hq : out = a * b / c := by
      rw [← g5, Int.add_comm, Int.add_mul_ediv_right _ _ (by omega), Int.ediv_eq_zero_of_lt g4.1 g4.2, Int.zero_add]
    rw [← hq]
    simp (maxSteps := 1000000) (disch := omega) only [go_sem, eq_self, decide_true, decide_false, not_true_eq_false, not_false_eq_true, reduceIte, reduceCtorEq, Nat.reduceEqDiff, Nat.reduceAdd, Nat.reduceSub, Nat.reduceLeDiff]
theorem fch_lt : ∀ {l : List (Int × Int)} {lo : Int}, Fch lo l → ∀ i j : Nat, i < j → j < l.length → (l.getD i default).2 ≤ (l.getD j default).1
  | [], _, _, i, j, _, h => by simp at h
  | w :: r, lo, h, i, j, hij, hj => by
    obtain ⟨h1, h2, h3, h4⟩ := h
    cases j with
    | zero => omega
    | succ j =>
      cases i with
      | zero =>
        have := h4.ge _ (getD_mem r j (by simpa using hj))
        rw [List.getD_cons_zero, List.getD_cons_succ]; omega
      | succ i => exact fch_lt h4 i j (by omega) (by simpa using hj)
theorem ph_at' (p : List Ph) (i : Nat) (h : i < p.length) : (p.map winP).getD i default = ((p.getD i default).f, (p.getD i default).t) := getD_map_in winP p i default h
theorem ph_lt {p : List Ph} (h : Fch 0 (p.map winP)) {i j : Nat} (hij : i < j) (hj : j < p.length) : (p.getD i default).t ≤ (p.getD j default).f := by
  have := fch_lt h i j hij (by simpa using hj)
  rw [ph_at' p i (by omega), ph_at' p j hj] at this
  exact this
def mtSt (a b : List Ph) (at_ i : Int) : AS := ⟨tabV [(1, phsV false b), (2, iv at_), (11, phsV false a), (12, iv a.length), (13, iv i)], tabO [], tabO []⟩
set_option maxHeartbeats 12000000 in
theorem mappedTo_fc (a b : List Ph) (ha : a.length ≤ 1000) (hb : b.length ≤ 1000) (hsa : smallP a) (hsb : smallP b) (h2 : phF a = 0) (h3 : phF b = 0) (at_ : Int) (h4 : 0 ≤ at_ ∧ at_ ≤ 345686399999) : FC Try.prog 88 none [phsV false a, phsV false b, iv at_] (fun _ r => r = .tu [iv (mpV a b at_).1, bv (mpV a b at_).2]) := by
  refine fc_mappedTo (by simp +arith) ?_
  have fa := (phF_ok h2).2
  have fb := (phF_ok h3).2
  have hsp := idxG_spec (inPh at_) a 0 (by omega)
  unfold C_mappedTo mpV
  simp only []
  generalize idxG (inPh at_) 0 a = k at *
  have hin : ∀ i : Nat, i < a.length → ((a.getD i default).f ≤ at_ ∧ at_ < (a.getD i default).t ↔ (i : Int) = k) := fun i hi => by
    rcases hsp with ⟨e1, e2⟩ | ⟨e1, e2, e3, e4⟩
    · have := e2 _ (getD_mem a i hi)
      unfold inPh at this
      have := of_decide_eq_false this
      exact ⟨fun h => absurd h this, fun h => by omega⟩
    · rw [show (k - 0).toNat = k.toNat by omega] at e3
      unfold inPh at e3
      have e3 := of_decide_eq_true e3
      constructor
      · intro h
        rcases Int.lt_trichotomy (i : Int) k with h5 | h5 | h5
        · have := e4 i (by omega)
          unfold inPh at this
          exact absurd h (of_decide_eq_false this)
        · exact h5
        · have := ph_lt fa (i := k.toNat) (j := i) (by omega) hi
          omega
      · intro h
        rw [show k.toNat = i by omega] at e3
        exact e3
  have hkl : k < a.length := by rcases hsp with ⟨e1, _⟩ | ⟨_, e2, _, _⟩ <;> omega
  simp (maxSteps := 1000000) (disch := omega) only [go_sem, eq_self, decide_true, decide_false, not_true_eq_false, not_false_eq_true, reduceIte, reduceCtorEq, Nat.reduceEqDiff, Nat.reduceAdd, Nat.reduceSub, Nat.reduceLeDiff]
  refine ex_loop1 (mtSt a b at_) (fun i => 0 ≤ i ∧ i ≤ a.length ∧ (i ≤ k ∨ (k < 0 ∨ k ≥ b.length ∨ ¬(b.getD k.toNat default).n = (a.getD k.toNat default).n))) (fun i => (a.length - i).toNat) 0 ⟨by omega, by omega, by omega⟩ rfl ?_
  rintro i ⟨g1, g2, g3⟩
  unfold mtSt
  by_cases hi : i < a.length
  · have em := getD_map_at phC a i [] g1 hi
    have hx := hin i.toNat (by omega)
    have ga := ph_ge fa (i := i.toNat) (by omega)
    have sa := hsa _ (getD_mem a i.toNat (by omega))
    by_cases c0 : i = k
    · subst c0
      have hxx := hx.2 (by omega)
      have hx2 : decide ((a.getD i.toNat default).f ≤ at_ ∧ at_ ≤ (a.getD i.toNat default).t - 1) = true := decide_eq_true (by omega)
      by_cases c2 : i < b.length
      · have eb := getD_map_at phC b i [] g1 c2
        have gb := ph_ge fb (i := i.toNat) (by omega)
        have sb := hsb _ (getD_mem b i.toNat (by omega))
        by_cases c3 : (b.getD i.toNat default).n = (a.getD i.toNat default).n
        · rw [if_neg (by rintro (h | h | h); omega; omega; exact h c3)]
          have hml := Int.mul_le_mul (show at_ - (a.getD i.toNat default).f ≤ 2000 by omega) (show (b.getD i.toNat default).t - (b.getD i.toNat default).f ≤ 2000 by omega) (by omega) (by omega)
          have hmn := Int.mul_nonneg (show 0 ≤ at_ - (a.getD i.toNat default).f by omega) (show 0 ≤ (b.getD i.toNat default).t - (b.getD i.toNat default).f by omega)
          have hd := ediv_bd' hmn (show 1 ≤ (a.getD i.toNat default).t - (a.getD i.toNat default).f by omega)
          simp (maxSteps := 1000000) (disch := omega) only [go_sem, eq_self, decide_true, decide_false, not_true_eq_false, not_false_eq_true, reduceIte, reduceCtorEq, Nat.reduceEqDiff, Nat.reduceAdd, Nat.reduceSub, Nat.reduceLeDiff]
          refine CALL_det (rin1_fc _ _ _) (.inl rfl) ?_
          rw [hx2]
          simp (maxSteps := 1000000) (disch := omega) only [go_sem, eq_self, decide_true, decide_false, not_true_eq_false, not_false_eq_true, reduceIte, reduceCtorEq, Nat.reduceEqDiff, Nat.reduceAdd, Nat.reduceSub, Nat.reduceLeDiff]
          refine CALL_det (rlong_fc (b.getD i.toNat default).f (b.getD i.toNat default).t (by omega) (by omega)) (.inl rfl) ?_
          simp (maxSteps := 1000000) (disch := omega) only [go_sem, eq_self, decide_true, decide_false, not_true_eq_false, not_false_eq_true, reduceIte, reduceCtorEq, Nat.reduceEqDiff, Nat.reduceAdd, Nat.reduceSub, Nat.reduceLeDiff]
          refine CALL_det (rlong_fc (a.getD i.toNat default).f (a.getD i.toNat default).t (by omega) (by omega)) (.inl rfl) ?_
          simp (maxSteps := 1000000) (disch := omega) only [go_sem, eq_self, decide_true, decide_false, not_true_eq_false, not_false_eq_true, reduceIte, reduceCtorEq, Nat.reduceEqDiff, Nat.reduceAdd, Nat.reduceSub, Nat.reduceLeDiff]
          refine CALL_det (scaled_fc (at_ - (a.getD i.toNat default).f) ((b.getD i.toNat default).t - (b.getD i.toNat default).f) ((a.getD i.toNat default).t - (a.getD i.toNat default).f) (by omega) (by omega) (by omega)) (.inl rfl) ?_
          simp (maxSteps := 1000000) (disch := omega) only [go_sem, eq_self, decide_true, decide_false, not_true_eq_false, not_false_eq_true, reduceIte, reduceCtorEq, Nat.reduceEqDiff, Nat.reduceAdd, Nat.reduceSub, Nat.reduceLeDiff]
        · simp (maxSteps := 1000000) (disch := omega) only [go_sem, eq_self, decide_true, decide_false, not_true_eq_false, not_false_eq_true, reduceIte, reduceCtorEq, Nat.reduceEqDiff, Nat.reduceAdd, Nat.reduceSub, Nat.reduceLeDiff]
          refine CALL_det (rin1_fc _ _ _) (.inl rfl) ?_
          rw [hx2]
          simp (maxSteps := 1000000) (disch := omega) only [go_sem, eq_self, decide_true, decide_false, not_true_eq_false, not_false_eq_true, reduceIte, reduceCtorEq, Nat.reduceEqDiff, Nat.reduceAdd, Nat.reduceSub, Nat.reduceLeDiff]
          exact ⟨i + 1, rfl, ⟨by omega, by omega, .inr (.inr (.inr c3))⟩, by omega⟩
      · simp (maxSteps := 1000000) (disch := omega) only [go_sem, eq_self, decide_true, decide_false, not_true_eq_false, not_false_eq_true, reduceIte, reduceCtorEq, Nat.reduceEqDiff, Nat.reduceAdd, Nat.reduceSub, Nat.reduceLeDiff]
        refine CALL_det (rin1_fc _ _ _) (.inl rfl) ?_
        rw [hx2]
        simp (maxSteps := 1000000) (disch := omega) only [go_sem, eq_self, decide_true, decide_false, not_true_eq_false, not_false_eq_true, reduceIte, reduceCtorEq, Nat.reduceEqDiff, Nat.reduceAdd, Nat.reduceSub, Nat.reduceLeDiff]
        exact ⟨i + 1, rfl, ⟨by omega, by omega, .inr (.inr (.inl (by omega)))⟩, by omega⟩
    · have hx2 : decide ((a.getD i.toNat default).f ≤ at_ ∧ at_ ≤ (a.getD i.toNat default).t - 1) = false := decide_eq_false (fun h => c0 (by have := hx.1 (by omega); omega))
      simp (maxSteps := 1000000) (disch := omega) only [go_sem, eq_self, decide_true, decide_false, not_true_eq_false, not_false_eq_true, reduceIte, reduceCtorEq, Nat.reduceEqDiff, Nat.reduceAdd, Nat.reduceSub, Nat.reduceLeDiff]
      refine CALL_det (rin1_fc _ _ _) (.inl rfl) ?_
      rw [hx2]
      simp (maxSteps := 1000000) (disch := omega) only [go_sem, eq_self, decide_true, decide_false, not_true_eq_false, not_false_eq_true, reduceIte, reduceCtorEq, Nat.reduceEqDiff, Nat.reduceAdd, Nat.reduceSub, Nat.reduceLeDiff]
      exact ⟨i + 1, rfl, ⟨by omega, by omega, by rcases g3 with h | h; exact .inl (by omega); exact .inr h⟩, by omega⟩
  · rw [if_pos (by rcases g3 with h | h; omega; exact h)]
    simp (maxSteps := 1000000) (disch := omega) only [go_sem, eq_self, decide_true, decide_false, not_true_eq_false, not_false_eq_true, reduceIte, reduceCtorEq, Nat.reduceEqDiff, Nat.reduceAdd, Nat.reduceSub, Nat.reduceLeDiff]
end Go.Proofs.Ytmbpfhpdicjpcaa

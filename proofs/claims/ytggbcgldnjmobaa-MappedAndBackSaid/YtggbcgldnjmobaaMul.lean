
/-
  The product of two words, in two words.
-/
import Derived.Test.YtggbcgldnjmobaaChk
import Derived.Laws.Bits64b
import Derived.Lib.Mul64
namespace Go.Proofs.Ytggbcgldnjmobaa
open Go Go.Ai
set_option linter.unusedSimpArgs false
set_option linter.unusedVariables false
set_option maxHeartbeats 4000000
def A_mul64 : List Ann := [⟨(some ⟨[0,1], [], []⟩), [], [], [], []⟩, ⟨(some ⟨[0,1,6], [], []⟩), [], [], [], []⟩, ⟨(some ⟨[0,1,6,7], [], []⟩), [], [], [], []⟩, ⟨(some ⟨[0,1,6,7,8], [], []⟩), [], [], [], []⟩, ⟨(some ⟨[0,1,6,7,8,9], [], []⟩), [], [], [], []⟩, ⟨(some ⟨[0,1,6,7,8,9,10], [], []⟩), [], [], [], []⟩, ⟨(some ⟨[0,1,6,7,9,11], [], []⟩), [], [], [], []⟩, ⟨(some ⟨[0,1,6,7,9,11,12], [], []⟩), [], [], [], []⟩, ⟨(some ⟨[0,1,6,7,9,12,13], [], []⟩), [], [], [], []⟩, ⟨(some ⟨[0,1,7,9,12,13], [], []⟩), [], [], [], []⟩, ⟨(some ⟨[0,1,4], [], []⟩), [], [], [], []⟩, ⟨(some ⟨[4,5], [], []⟩), [], [], [], []⟩]
def C_mul64 : AC := (.seq (.reg false [⟨(some 4), none, .mv (.v (.int .u64 (0)))⟩, ⟨(some 5), none, .mv (.v (.int .u64 (0)))⟩] (some ⟨[0,1], [], []⟩))
  (.seq (.reg false [⟨(some 14), none, .mv (.t 0)⟩, ⟨(some 15), none, .bin .and (.t 14) (.v (.int .u64 (4294967295)))⟩, ⟨(some 6), none, .mv (.t 15)⟩] (some ⟨[0,1,6], [], []⟩))
  (.seq (.reg false [⟨(some 16), none, .mv (.t 0)⟩, ⟨(some 17), none, .bin .shr (.t 16) (.v (.int .u64 (32)))⟩, ⟨(some 7), none, .mv (.t 17)⟩] (some ⟨[0,1,6,7], [], []⟩))
  (.seq (.reg false [⟨(some 18), none, .mv (.t 1)⟩, ⟨(some 19), none, .bin .and (.t 18) (.v (.int .u64 (4294967295)))⟩, ⟨(some 8), none, .mv (.t 19)⟩] (some ⟨[0,1,6,7,8], [], []⟩))
  (.seq (.reg false [⟨(some 20), none, .mv (.t 1)⟩, ⟨(some 21), none, .bin .shr (.t 20) (.v (.int .u64 (32)))⟩, ⟨(some 9), none, .mv (.t 21)⟩] (some ⟨[0,1,6,7,8,9], [], []⟩))
  (.seq (.reg false [⟨(some 22), none, .mv (.t 6)⟩, ⟨(some 23), none, .mv (.t 8)⟩, ⟨(some 24), none, .bin .mul (.t 22) (.t 23)⟩, ⟨(some 10), none, .mv (.t 24)⟩] (some ⟨[0,1,6,7,8,9,10], [], []⟩))
  (.seq (.reg false [⟨(some 25), none, .mv (.t 7)⟩, ⟨(some 26), none, .mv (.t 8)⟩, ⟨(some 27), none, .bin .mul (.t 25) (.t 26)⟩, ⟨(some 28), none, .mv (.t 10)⟩, ⟨(some 29), none, .bin .shr (.t 28) (.v (.int .u64 (32)))⟩, ⟨(some 30), none, .bin .add (.t 27) (.t 29)⟩, ⟨(some 11), none, .mv (.t 30)⟩] (some ⟨[0,1,6,7,9,11], [], []⟩))
  (.seq (.reg false [⟨(some 31), none, .mv (.t 11)⟩, ⟨(some 32), none, .bin .and (.t 31) (.v (.int .u64 (4294967295)))⟩, ⟨(some 12), none, .mv (.t 32)⟩] (some ⟨[0,1,6,7,9,11,12], [], []⟩))
  (.seq (.reg false [⟨(some 33), none, .mv (.t 11)⟩, ⟨(some 34), none, .bin .shr (.t 33) (.v (.int .u64 (32)))⟩, ⟨(some 13), none, .mv (.t 34)⟩] (some ⟨[0,1,6,7,9,12,13], [], []⟩))
  (.seq (.reg false [⟨(some 35), none, .mv (.t 12)⟩, ⟨(some 36), none, .mv (.t 6)⟩, ⟨(some 37), none, .mv (.t 9)⟩, ⟨(some 38), none, .bin .mul (.t 36) (.t 37)⟩, ⟨(some 39), none, .bin .add (.t 35) (.t 38)⟩, ⟨(some 12), none, .mv (.t 39)⟩] (some ⟨[0,1,7,9,12,13], [], []⟩))
  (.seq (.reg false [⟨(some 40), none, .mv (.t 7)⟩, ⟨(some 41), none, .mv (.t 9)⟩, ⟨(some 42), none, .bin .mul (.t 40) (.t 41)⟩, ⟨(some 43), none, .mv (.t 13)⟩, ⟨(some 44), none, .bin .add (.t 42) (.t 43)⟩, ⟨(some 45), none, .mv (.t 12)⟩, ⟨(some 46), none, .bin .shr (.t 45) (.v (.int .u64 (32)))⟩, ⟨(some 47), none, .bin .add (.t 44) (.t 46)⟩, ⟨(some 4), none, .mv (.t 47)⟩] (some ⟨[0,1,4], [], []⟩))
  (.seq (.reg false [⟨(some 48), none, .mv (.t 0)⟩, ⟨(some 49), none, .mv (.t 1)⟩, ⟨(some 50), none, .bin .mul (.t 48) (.t 49)⟩, ⟨(some 5), none, .mv (.t 50)⟩] (some ⟨[4,5], [], []⟩))
  .ret))))))))))))
theorem c_mul64 : compileCode Try.prog Try.f154.ntmps (Try.f154.body.getD .skip) A_mul64 = some (C_mul64, []) := by kernel_rfl
theorem r_mul64 : compileRes Try.prog Try.f154.results.toList = some [.t 4, .t 5] := by kernel_rfl
theorem b_mul64 : Try.f154.body = some (Try.f154.body.getD .skip) := by kernel_rfl
theorem n_mul64 : (Try.f154.name == "runtime.NumGoroutine") = false := by kernel_rfl
theorem fc_mul64 {xt : Option (List Cel)} {args : List Val} {R : List Cel → Val → Prop} (hn : (if xt.isSome then 1 else 0) + args.length ≤ Try.f154.ntmps) (h : ex Try.prog C_mul64 [] (fpost xt [.t 4, .t 5] R) (initSt xt args)) : FC Try.prog 154 xt args R :=
  fc_of_awp Try.func154 b_mul64 n_mul64 c_mul64 r_mul64 (of_decide_eq_true (by kernel_rfl)) hn h


abbrev uv (n : Int) : Val := .one (.g (.int .u64 n))
theorem maskN (a : Nat) (ha : a < 18446744073709551616) : bits .and .u64 (a : Int) 4294967295 = ((a % 4294967296 : Nat) : Int) := by
  have h := bits_and_u64_nat a 4294967295 ha (by omega)
  have e : a &&& 4294967295 = a % 4294967296 := Nat.and_two_pow_sub_one_eq_mod a 32
  rw [e] at h
  exact h
theorem shr32 (a : Nat) : (a : Int).fdiv (2 ^ (min (Int.toNat 32) 64)) = ((a / 4294967296 : Nat) : Int) := by
  have e : (2 : Int) ^ (min (Int.toNat 32) 64) = 4294967296 := by decide
  rw [e, Int.fdiv_eq_ediv_of_nonneg _ (by omega)]; omega
theorem mulN (a b : Nat) : (a : Int) * (b : Int) = ((a * b : Nat) : Int) := (Int.natCast_mul a b).symm
theorem addN (a b : Nat) : (a : Int) + (b : Int) = ((a + b : Nat) : Int) := (Int.natCast_add a b).symm
theorem wrapN (a : Nat) (ha : a < 18446744073709551616) : IntKind.u64.wrap (a : Int) = (a : Int) := by rw [IntKind.wrap_u64]; omega
theorem wrapM (a : Nat) : IntKind.u64.wrap (a : Int) = ((a % 18446744073709551616 : Nat) : Int) := by rw [IntKind.wrap_u64]; omega
theorem mul64_fc (x y : Nat) (hx : x < 18446744073709551616) (hy : y < 18446744073709551616) : FC Try.prog 154 none [uv x, uv y] (fun _ r => r = .tu [uv ((x * y / 18446744073709551616 : Nat) : Int), uv ((x * y % 18446744073709551616 : Nat) : Int)]) := by
  obtain ⟨bd, bt, bw, hhi⟩ := Lib.mul64_hi x y hx hy
  have ba := Lib.half_mul_le (a := x / 4294967296) (b := y / 4294967296) (by omega) (by omega)
  have bb := Lib.half_mul_le (a := x / 4294967296) (b := y % 4294967296) (by omega) (by omega)
  have bc := Lib.half_mul_le (a := x % 4294967296) (b := y / 4294967296) (by omega) (by omega)
  have ba' : x / 4294967296 * (y / 4294967296) < 18446744073709551616 := by omega
  have bb' : x / 4294967296 * (y % 4294967296) < 18446744073709551616 := by omega
  have bc' : x % 4294967296 * (y / 4294967296) < 18446744073709551616 := by omega
  have bh1 : x / 4294967296 * (y / 4294967296) + (x / 4294967296 * (y % 4294967296) + x % 4294967296 * (y % 4294967296) / 4294967296) / 4294967296 < 18446744073709551616 := by omega
  have bh : x / 4294967296 * (y / 4294967296) + (x / 4294967296 * (y % 4294967296) + x % 4294967296 * (y % 4294967296) / 4294967296) / 4294967296 + ((x / 4294967296 * (y % 4294967296) + x % 4294967296 * (y % 4294967296) / 4294967296) % 4294967296 + x % 4294967296 * (y / 4294967296)) / 4294967296 < 18446744073709551616 := by omega
  refine fc_mul64 (by simp +arith) ?_
  unfold C_mul64
  simp (maxSteps := 1000000) (disch := omega) only [go_sem, eq_self, decide_true, decide_false, not_true_eq_false, not_false_eq_true, reduceIte, reduceCtorEq, Nat.reduceEqDiff, Nat.reduceAdd, Nat.reduceSub, Nat.reduceLeDiff]
  simp only [maskN x hx, maskN y hy, shr32, mulN, addN, wrapN _ bd, wrapN _ bb', wrapN _ bt, maskN _ bt, wrapN _ bc', wrapN _ bw, wrapN _ ba', wrapN _ bh1, wrapN _ bh, wrapM (x * y)]
  rw [hhi]
end Go.Proofs.Ytggbcgldnjmobaa

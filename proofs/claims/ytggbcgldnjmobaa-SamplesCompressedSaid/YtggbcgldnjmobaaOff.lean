
/-
  How far each sample is from its reconstruction, by the reference; fractions compared.
-/
import Derived.Test.YtggbcgldnjmobaaErr
import Derived.Test.YtggbcgldnjmobaaSra
import Derived.Test.YtggbcgldnjmobaaCof
namespace Go.Proofs.Ytggbcgldnjmobaa
open Go Go.Ai
set_option linter.unusedSimpArgs false
set_option linter.unusedVariables false
set_option maxHeartbeats 4000000
def A_offs : List Ann := [⟨(some ⟨[0,1], [], []⟩), [], [], [], []⟩, ⟨(some ⟨[0,6], [], []⟩), [], [], [], []⟩, ⟨(some ⟨[0,6,7], [], []⟩), [(7, 90, 2)], [], [], []⟩, ⟨(some ⟨[0,6,7,8], [], [7]⟩), [(8, 4, 1)], [], [], []⟩, ⟨(some ⟨[6,7,8,16,17,18], [], [7,8]⟩), [], [], [], []⟩, ⟨(some ⟨[6,7,8,16,17,18,19], [], [7,8]⟩), [], [], [], []⟩, ⟨(some ⟨[6,7,8,10,16,17,18], [10], [7,8]⟩), [], [], [], []⟩, ⟨(some ⟨[6,7,8,10,11,12,16,17,18], [10,11], [7,8]⟩), [], [], [], []⟩, ⟨(some ⟨[6,7,8,10,11,12,16,17,18], [10,11], [7,8]⟩), [], [], [], []⟩, ⟨(some ⟨[6,7,8,10,11,12,16,17,18,35], [10,11], [7,8]⟩), [], [], [], []⟩, ⟨(some ⟨[6,7,8,11,12,16,17,18], [11], [7,8]⟩), [], [], [], []⟩, ⟨(some ⟨[6,7,8,11,12,16,17,18], [11], [7,8]⟩), [], [], [], []⟩, ⟨(some ⟨[6,7,8,16,17,18], [], [7,8]⟩), [], [], [], []⟩, ⟨(some ⟨[6,7,8,16,17,18], [], [7,8]⟩), [], [], [], []⟩, ⟨(some ⟨[4,5], [], []⟩), [], [], [], []⟩]
def C_offs : AC := (.seq (.reg false [⟨(some 4), none, .mv (.v (.slice none 0 0))⟩, ⟨(some 5), none, .mv (.v (.slice none 0 0))⟩] (some ⟨[0,1], [], []⟩))
  (.seq (.reg false [⟨(some 13), none, .mv (.t 0)⟩, ⟨(some 14), none, .mv (.t 1)⟩, ⟨(some 15), none, .call (.f 24) [(.t 13), (.t 14)]⟩, ⟨(some 6), none, .mv (.t 15)⟩] (some ⟨[0,6], [], []⟩))
  (.seq (.seq (.reg false [⟨(some 7), none, .mv (.v (.slice none 0 0))⟩] (some ⟨[0,6,7], [], []⟩))
  (.own 7 90 2))
  (.seq (.seq (.reg false [⟨(some 8), none, .mv (.v (.slice none 0 0))⟩] (some ⟨[0,6,7,8], [], [7]⟩))
  (.own 8 4 1))
  (.seq (.seq (.reg false [⟨(some 16), none, .mv (.t 0)⟩, ⟨(some 17), none, .len (.t 16)⟩, ⟨(some 18), none, .mv (.v (.int .i64 (0)))⟩] (some ⟨[6,7,8,16,17,18], [], [7,8]⟩))
  (.block 0 (.loop (.seq (.reg false [⟨(some 19), none, .bin .lss (.t 18) (.t 17)⟩] (some ⟨[6,7,8,16,17,18,19], [], [7,8]⟩))
  (.seq (.cond (.t 19)
  .skip
  (.exit 0))
  (.seq (.block 1 (.seq (.reg false [⟨(some 20), none, .iadr 3 (.t 16) (.t 18)⟩, ⟨(some 21), none, .load true 3 (.t 20)⟩, ⟨(some 10), none, .alloc [(.int .i64 (0)), (.int .i64 (0)), (.int .i64 (0))]⟩, ⟨none, none, .store 3 (.t 10) (.t 21)⟩] (some ⟨[6,7,8,10,16,17,18], [10], [7,8]⟩))
  (.seq (.reg false [⟨(some 23), none, .mv (.t 6)⟩, ⟨(some 24), none, .fadr 0 (.t 10)⟩, ⟨(some 25), none, .load false 1 (.t 24)⟩, ⟨(some 26), none, .call (.f 145) [(.t 23), (.t 25)]⟩, ⟨(some 22), none, .mv (.t 26)⟩, ⟨(some 27), none, .extr (.t 22) 0⟩, ⟨(some 28), none, .extr (.t 22) 1⟩, ⟨(some 11), none, .alloc [(.int .i64 (0)), (.int .i64 (0))]⟩, ⟨none, none, .store 2 (.t 11) (.t 27)⟩, ⟨(some 12), none, .mv (.t 28)⟩] (some ⟨[6,7,8,10,11,12,16,17,18], [10,11], [7,8]⟩))
  (.seq (.reg false [⟨(some 29), none, .mv (.t 12)⟩, ⟨(some 30), none, .mv (.t 29)⟩, ⟨(some 31), (some (30, true)), .fadr 2 (.t 10)⟩, ⟨(some 32), (some (30, true)), .load false 1 (.t 31)⟩, ⟨(some 33), (some (30, true)), .bin .neq (.t 32) (.v (.int .i64 (2)))⟩, ⟨(some 34), none, .pick (.t 30) (.t 33) (.v (.bool false))⟩, ⟨(some 12), none, .mv (.t 34)⟩] (some ⟨[6,7,8,10,11,12,16,17,18], [10,11], [7,8]⟩))
  (.seq (.seq (.reg false [⟨(some 35), none, .mv (.t 12)⟩] (some ⟨[6,7,8,10,11,12,16,17,18,35], [10,11], [7,8]⟩))
  (.cond (.t 35)
  (.reg true [⟨(some 36), none, .fadr 0 (.t 11)⟩, ⟨(some 37), none, .load false 1 (.t 36)⟩, ⟨(some 38), none, .fadr 1 (.t 10)⟩, ⟨(some 39), none, .load false 1 (.t 38)⟩, ⟨(some 40), none, .fadr 1 (.t 11)⟩, ⟨(some 41), none, .load false 1 (.t 40)⟩, ⟨(some 42), none, .bin .mul (.t 39) (.t 41)⟩, ⟨(some 43), none, .call (.f 146) [(.t 37), (.t 42)]⟩, ⟨(some 44), none, .fadr 1 (.t 11)⟩, ⟨(some 45), none, .load false 1 (.t 44)⟩, ⟨(some 46), none, .call (.f 134) [(.t 43), (.t 45)]⟩, ⟨none, none, .store 2 (.t 11) (.t 46)⟩] (some ⟨[6,7,8,11,12,16,17,18], [11], [7,8]⟩))
  (.reg false [⟨(some 47), none, .build [(.int .i64 (0)), (.int .i64 (0))] [(1, 1, (.v (.int .i64 (1))))]⟩, ⟨none, none, .store 2 (.t 11) (.t 47)⟩] (some ⟨[6,7,8,11,12,16,17,18], [11], [7,8]⟩))))
  (.reg false [⟨(some 48), none, .mv (.t 7)⟩, ⟨(some 49), none, .load true 2 (.t 11)⟩, ⟨(some 50), none, .bslice 2 1 [(.t 49)]⟩, ⟨(some 51), none, .append 90 2 16 (.t 48) (.t 50)⟩, ⟨(some 52), none, .mv (.t 8)⟩, ⟨(some 53), none, .mv (.t 12)⟩, ⟨(some 54), none, .bslice 1 1 [(.t 53)]⟩, ⟨(some 55), none, .append 4 1 1 (.t 52) (.t 54)⟩, ⟨(some 7), none, .mv (.t 51)⟩, ⟨(some 8), none, .mv (.t 55)⟩] (some ⟨[6,7,8,16,17,18], [], [7,8]⟩)))))))
  (.reg false [⟨(some 56), none, .bin .add (.t 18) (.v (.int .i64 (1)))⟩, ⟨(some 18), none, .mv (.t 56)⟩] (some ⟨[6,7,8,16,17,18], [], [7,8]⟩))))))))
  (.seq (.reg false [⟨(some 57), none, .mv (.t 7)⟩, ⟨(some 58), none, .mv (.t 8)⟩, ⟨(some 4), none, .mv (.t 57)⟩, ⟨(some 5), none, .mv (.t 58)⟩] (some ⟨[4,5], [], []⟩))
  .ret))))))
theorem c_offs : compileCode Try.prog Try.f90.ntmps (Try.f90.body.getD .skip) A_offs = some (C_offs, []) := by kernel_rfl
theorem r_offs : compileRes Try.prog Try.f90.results.toList = some [.t 4, .t 5] := by kernel_rfl
theorem b_offs : Try.f90.body = some (Try.f90.body.getD .skip) := by kernel_rfl
theorem n_offs : (Try.f90.name == "runtime.NumGoroutine") = false := by kernel_rfl
theorem fc_offs {xt : Option (List Cel)} {args : List Val} {R : List Cel → Val → Prop} (hn : (if xt.isSome then 1 else 0) + args.length ≤ Try.f90.ntmps) (h : ex Try.prog C_offs [] (fpost xt [.t 4, .t 5] R) (initSt xt args)) : FC Try.prog 90 xt args R :=
  fc_of_awp Try.func90 b_offs n_offs c_offs r_offs (of_decide_eq_true (by kernel_rfl)) hn h

def A_mulLess : List Ann := [⟨(some ⟨[0,1,2,3], [], []⟩), [], [], [], []⟩, ⟨(some ⟨[2,3,9,10], [], []⟩), [], [], [], []⟩, ⟨(some ⟨[9,10,11,12], [], []⟩), [], [], [], []⟩, ⟨(some ⟨[8], [], []⟩), [], [], [], []⟩]
def C_mulLess : AC := (.seq (.reg false [⟨(some 8), none, .mv (.v (.bool false))⟩] (some ⟨[0,1,2,3], [], []⟩))
  (.seq (.reg false [⟨(some 14), none, .mv (.t 0)⟩, ⟨(some 15), none, .conv .u64 (.t 14)⟩, ⟨(some 16), none, .mv (.t 1)⟩, ⟨(some 17), none, .conv .u64 (.t 16)⟩, ⟨(some 18), none, .call (.f 154) [(.t 15), (.t 17)]⟩, ⟨(some 13), none, .mv (.t 18)⟩, ⟨(some 19), none, .extr (.t 13) 0⟩, ⟨(some 20), none, .extr (.t 13) 1⟩, ⟨(some 9), none, .mv (.t 19)⟩, ⟨(some 10), none, .mv (.t 20)⟩] (some ⟨[2,3,9,10], [], []⟩))
  (.seq (.reg false [⟨(some 22), none, .mv (.t 2)⟩, ⟨(some 23), none, .conv .u64 (.t 22)⟩, ⟨(some 24), none, .mv (.t 3)⟩, ⟨(some 25), none, .conv .u64 (.t 24)⟩, ⟨(some 26), none, .call (.f 154) [(.t 23), (.t 25)]⟩, ⟨(some 21), none, .mv (.t 26)⟩, ⟨(some 27), none, .extr (.t 21) 0⟩, ⟨(some 28), none, .extr (.t 21) 1⟩, ⟨(some 11), none, .mv (.t 27)⟩, ⟨(some 12), none, .mv (.t 28)⟩] (some ⟨[9,10,11,12], [], []⟩))
  (.seq (.reg false [⟨(some 29), none, .mv (.t 9)⟩, ⟨(some 30), none, .mv (.t 11)⟩, ⟨(some 31), none, .bin .lss (.t 29) (.t 30)⟩, ⟨(some 32), none, .mv (.t 31)⟩, ⟨(some 33), (some (32, false)), .mv (.t 9)⟩, ⟨(some 34), (some (32, false)), .mv (.t 11)⟩, ⟨(some 35), (some (32, false)), .bin .eql (.t 33) (.t 34)⟩, ⟨(some 36), (some (32, false)), .mv (.t 35)⟩, ⟨(some 37), (some (36, true)), .mv (.t 10)⟩, ⟨(some 38), (some (36, true)), .mv (.t 12)⟩, ⟨(some 39), (some (36, true)), .bin .lss (.t 37) (.t 38)⟩, ⟨(some 40), (some (32, false)), .pick (.t 36) (.t 39) (.v (.bool false))⟩, ⟨(some 41), none, .pick (.t 32) (.v (.bool true)) (.t 40)⟩, ⟨(some 8), none, .mv (.t 41)⟩] (some ⟨[8], [], []⟩))
  .ret))))
theorem c_mulLess : compileCode Try.prog Try.f147.ntmps (Try.f147.body.getD .skip) A_mulLess = some (C_mulLess, []) := by kernel_rfl
theorem r_mulLess : compileRes Try.prog Try.f147.results.toList = some [.t 8] := by kernel_rfl
theorem b_mulLess : Try.f147.body = some (Try.f147.body.getD .skip) := by kernel_rfl
theorem n_mulLess : (Try.f147.name == "runtime.NumGoroutine") = false := by kernel_rfl
theorem fc_mulLess {xt : Option (List Cel)} {args : List Val} {R : List Cel → Val → Prop} (hn : (if xt.isSome then 1 else 0) + args.length ≤ Try.f147.ntmps) (h : ex Try.prog C_mulLess [] (fpost xt [.t 8] R) (initSt xt args)) : FC Try.prog 147 xt args R :=
  fc_of_awp Try.func147 b_mulLess n_mulLess c_mulLess r_mulLess (of_decide_eq_true (by kernel_rfl)) hn h

def A_lessThan : List Ann := [⟨(some ⟨[2,3], [2,3], []⟩), [], [], [], []⟩, ⟨(some ⟨[2,3,5,6], [2,3], []⟩), [], [], [], []⟩, ⟨(some ⟨[2,3,5,6,19], [2,3], []⟩), [], [], [], []⟩, ⟨(some ⟨[4], [], []⟩), [], [], [], []⟩, ⟨(some ⟨[4], [], []⟩), [], [], [], []⟩]
def C_lessThan : AC := (.seq (.reg false [⟨(some 2), none, .box (.t 0)⟩, ⟨(some 3), none, .box (.t 1)⟩, ⟨(some 4), none, .mv (.v (.bool false))⟩] (some ⟨[2,3], [2,3], []⟩))
  (.seq (.seq (.reg true [⟨(some 7), none, .fadr 0 (.t 2)⟩, ⟨(some 8), none, .load false 1 (.t 7)⟩, ⟨(some 9), none, .fadr 1 (.t 2)⟩, ⟨(some 10), none, .load false 1 (.t 9)⟩, ⟨(some 11), none, .bin .quo (.t 8) (.t 10)⟩, ⟨(some 12), none, .fadr 0 (.t 3)⟩, ⟨(some 13), none, .load false 1 (.t 12)⟩, ⟨(some 14), none, .fadr 1 (.t 3)⟩, ⟨(some 15), none, .load false 1 (.t 14)⟩, ⟨(some 16), none, .bin .quo (.t 13) (.t 15)⟩, ⟨(some 5), none, .mv (.t 11)⟩, ⟨(some 6), none, .mv (.t 16)⟩] (some ⟨[2,3,5,6], [2,3], []⟩))
  (.seq (.reg false [⟨(some 17), none, .mv (.t 5)⟩, ⟨(some 18), none, .mv (.t 6)⟩, ⟨(some 19), none, .bin .neq (.t 17) (.t 18)⟩] (some ⟨[2,3,5,6,19], [2,3], []⟩))
  (.cond (.t 19)
  (.seq (.reg false [⟨(some 20), none, .mv (.t 5)⟩, ⟨(some 21), none, .mv (.t 6)⟩, ⟨(some 22), none, .bin .lss (.t 20) (.t 21)⟩, ⟨(some 4), none, .mv (.t 22)⟩] (some ⟨[4], [], []⟩))
  .ret)
  .skip)))
  (.seq (.reg true [⟨(some 23), none, .fadr 0 (.t 2)⟩, ⟨(some 24), none, .load false 1 (.t 23)⟩, ⟨(some 25), none, .fadr 1 (.t 2)⟩, ⟨(some 26), none, .load false 1 (.t 25)⟩, ⟨(some 27), none, .bin .rem (.t 24) (.t 26)⟩, ⟨(some 28), none, .fadr 1 (.t 3)⟩, ⟨(some 29), none, .load false 1 (.t 28)⟩, ⟨(some 30), none, .fadr 0 (.t 3)⟩, ⟨(some 31), none, .load false 1 (.t 30)⟩, ⟨(some 32), none, .fadr 1 (.t 3)⟩, ⟨(some 33), none, .load false 1 (.t 32)⟩, ⟨(some 34), none, .bin .rem (.t 31) (.t 33)⟩, ⟨(some 35), none, .fadr 1 (.t 2)⟩, ⟨(some 36), none, .load false 1 (.t 35)⟩, ⟨(some 37), none, .call (.f 147) [(.t 27), (.t 29), (.t 34), (.t 36)]⟩, ⟨(some 4), none, .mv (.t 37)⟩] (some ⟨[4], [], []⟩))
  .ret)))
theorem c_lessThan : compileCode Try.prog Try.f91.ntmps (Try.f91.body.getD .skip) A_lessThan = some (C_lessThan, []) := by kernel_rfl
theorem r_lessThan : compileRes Try.prog Try.f91.results.toList = some [.t 4] := by kernel_rfl
theorem b_lessThan : Try.f91.body = some (Try.f91.body.getD .skip) := by kernel_rfl
theorem n_lessThan : (Try.f91.name == "runtime.NumGoroutine") = false := by kernel_rfl
theorem fc_lessThan {xt : Option (List Cel)} {args : List Val} {R : List Cel → Val → Prop} (hn : (if xt.isSome then 1 else 0) + args.length ≤ Try.f91.ntmps) (h : ex Try.prog C_lessThan [] (fpost xt [.t 4] R) (initSt xt args)) : FC Try.prog 91 xt args R :=
  fc_of_awp Try.func91 b_lessThan n_lessThan c_lessThan r_lessThan (of_decide_eq_true (by kernel_rfl)) hn h


theorem lowG_mul {g A B : Int} (hg : 1 ≤ g) (hA : 0 ≤ A) (hB : 1 ≤ B) : lowG (g * A) (g * B) = g * lowG A B := by
  obtain ⟨g, rfl⟩ := Int.eq_ofNat_of_zero_le (show 0 ≤ g by omega)
  obtain ⟨A, rfl⟩ := Int.eq_ofNat_of_zero_le hA
  obtain ⟨B, rfl⟩ := Int.eq_ofNat_of_zero_le (show 0 ≤ B by omega)
  unfold lowG
  rw [← Int.natCast_mul, ← Int.natCast_mul]
  have e1 : (max ((g * A : Nat) : Int) (0 - ((g * A : Nat) : Int))).toNat = g * A := by omega
  have e2 : (max (A : Int) (0 - (A : Int))).toNat = A := by omega
  rw [e1, e2, Int.toNat_natCast, Int.toNat_natCast, Nat.gcd_mul_left, Int.natCast_mul]
theorem low_mul {g A B : Int} (hg : 1 ≤ g) (hA : 0 ≤ A) (hB : 1 ≤ B) : lowN (g * A) (g * B) = lowN A B ∧ lowD (g * A) (g * B) = lowD A B := by
  unfold lowN lowD
  rw [lowG_mul hg hA hB, Int.mul_tdiv_mul_of_pos _ _ (by omega), Int.mul_tdiv_mul_of_pos _ _ (by omega)]
  exact ⟨rfl, rfl⟩
theorem low_lt {a b c d : Int} (hb : 1 ≤ b) (hd : 1 ≤ d) : lowN a b * lowD c d < lowN c d * lowD a b ↔ a * d < c * b := by
  obtain ⟨e1, e2, h1, _⟩ := low_eq a b hb
  obtain ⟨e3, e4, h2, _⟩ := low_eq c d hd
  generalize lowN a b = F1 at *
  generalize lowD a b = F2 at *
  generalize lowN c d = G1 at *
  generalize lowD c d = G2 at *
  generalize lowG a b = g at *
  generalize lowG c d = h at *
  subst e1; subst e2; subst e3; subst e4
  have e5 : g * F1 * (h * G2) = g * h * (F1 * G2) := by
    rw [Int.mul_assoc, Int.mul_left_comm F1 h G2, ← Int.mul_assoc]
  have e6 : h * G1 * (g * F2) = g * h * (G1 * F2) := by
    rw [Int.mul_assoc, Int.mul_left_comm G1 g F2, ← Int.mul_assoc, Int.mul_comm h g]
  rw [e5, e6]
  exact (Int.mul_lt_mul_left (Int.mul_pos (by omega) (by omega))).symm
theorem low_pos {n d : Int} (hn : 0 ≤ n) (hd : 1 ≤ d) : 0 ≤ lowN n d ∧ lowN n d ≤ n ∧ 1 ≤ lowD n d ∧ lowD n d ≤ d := by
  obtain ⟨_, _, h1, h2⟩ := low_eq n d hd
  refine ⟨Int.tdiv_nonneg hn (by omega), Int.tdiv_le_self _ hn, h2, Int.tdiv_le_self _ (by omega)⟩
def ofB (k : List Smp) (s : Smp) : Bool := (rfSp k s.a).2 && decide (¬s.q = 2)
def ofF (k : List Smp) (s : Smp) : Int × Int := if ofB k s = true then (lowN (max ((rfSp k s.a).1.1 - s.v * (rfSp k s.a).1.2) (s.v * (rfSp k s.a).1.2 - (rfSp k s.a).1.1)) (rfSp k s.a).1.2, lowD (max ((rfSp k s.a).1.1 - s.v * (rfSp k s.a).1.2) (s.v * (rfSp k s.a).1.2 - (rfSp k s.a).1.1)) (rfSp k s.a).1.2) else (0, 1)
theorem of_ap {k : List Smp} (hg : Good k) {s : Smp} (hs : okSmp s) : ofB k s = (apSp k s).2 ∧ ((apSp k s).2 = true → ofF k s = (lowN (apSp k s).1.1 (apSp k s).1.2, lowD (apSp k s).1.1 (apSp k s).1.2)) := by
  unfold okSmp at hs
  have hb := recSp_bd hg (at_ := s.a) (by omega)
  unfold ofF ofB rfSp apSp
  generalize recSp k s.a = x at *
  obtain ⟨⟨n, d⟩, b⟩ := x
  cases b with
  | false => simp
  | true =>
    obtain ⟨h1, h2⟩ := hb rfl
    simp only at h1 h2
    by_cases q : s.q = 2
    · simp [q]
    · have e0 : ¬(((n, d), true).2 = false ∨ s.q = 2) := by simp [q]
      rw [if_neg (show ¬((((n, d), true) : (Int × Int) × Bool).2 = false) by simp), if_neg e0]
      refine ⟨by simp [q], fun _ => ?_⟩
      rw [if_pos (by simp [q])]
      simp only
      obtain ⟨e1, e2, e3, e4⟩ := low_eq n d (by omega)
      generalize lowN n d = N at *
      generalize lowD n d = D at *
      generalize lowG n d = g at *
      subst e1; subst e2
      have e5 : s.v * (g * D) - g * N = g * (s.v * D - N) := by rw [Int.mul_left_comm, ← Int.mul_sub]
      have e6 : max (s.v * (g * D) - g * N) (0 - (s.v * (g * D) - g * N)) = g * max (N - s.v * D) (s.v * D - N) := by
        rw [e5]
        by_cases h : 0 ≤ s.v * D - N
        · have := Int.mul_nonneg (show 0 ≤ g by omega) h
          rw [show max (N - s.v * D) (s.v * D - N) = s.v * D - N by omega]; omega
        · have := Int.mul_nonneg (show 0 ≤ g by omega) (show 0 ≤ -(s.v * D - N) by omega)
          rw [show max (N - s.v * D) (s.v * D - N) = -(s.v * D - N) by omega, Int.mul_neg]
          rw [Int.mul_neg] at this; omega
      rw [e6]
      obtain ⟨m1, m2⟩ := low_mul (A := max (N - s.v * D) (s.v * D - N)) e3 (by omega) e4
      rw [m1, m2]
def bC (b : Bool) : List Cel := [.g (.bool b)]
theorem bC_eq (b : Bool) : bC b = [.g (.bool b)] := (rfl)
theorem frE_b (l : List Bool) : frE (l.map bC) = true := frE_map (fun _ => rfl) l
theorem datE_b (l : List Bool) : datE (l.map bC) = l.map bC := datE_map (fun _ => rfl) l
theorem tofE_b (l : List Bool) : tofE (l.map bC) = l.map bC := tofE_map (fun _ => rfl) l
attribute [go_sem] bC_eq frE_b datE_b tofE_b
abbrev boolsV (fr : Bool) (l : List Bool) : Val := .one (.sl fr 1 (l.map bC))
def osSt (k l : List Smp) (i : Int) (f : List (Int × Int)) (h : List Bool) : AS := ⟨tabV [(6, smps true k), (7, .one (.ow 7 0)), (8, .one (.ow 8 0)), (16, smps false l), (17, iv l.length), (18, iv i)], tabO [], tabO [(7, ⟨0, 90, 2, f.map frC⟩), (8, ⟨0, 4, 1, h.map bC⟩)]⟩
theorem offs_fc (l : List Smp) (hs : serFault l = 0) (kept : List Int) (hk : kept.length ≤ l.length) (hin : ∀ k ∈ kept, 0 ≤ k ∧ k < l.length) (hgk : Good (kep l kept)) : FC Try.prog 90 none [smps false l, ints false kept] (fun _ r => r = .tu [frsV true (l.map (ofF (kep l kept))), boolsV true (l.map (ofB (kep l kept)))]) := by
  refine fc_offs (by simp +arith) ?_
  have hg := good_of hs
  have hlen := hg.len
  unfold C_offs
  simp (maxSteps := 1000000) (disch := omega) only [go_sem, eq_self, decide_true, decide_false, not_true_eq_false, not_false_eq_true, reduceIte, reduceCtorEq, Nat.reduceEqDiff, Nat.reduceAdd, Nat.reduceSub, Nat.reduceLeDiff]
  refine CALL_det (keptOf_fc l hlen kept hk hin) (.inl rfl) ?_
  generalize kep l kept = k at *
  simp (maxSteps := 1000000) (disch := omega) only [go_sem, eq_self, decide_true, decide_false, not_true_eq_false, not_false_eq_true, reduceIte, reduceCtorEq, Nat.reduceEqDiff, Nat.reduceAdd, Nat.reduceSub, Nat.reduceLeDiff]
  refine ⟨by omega, ?_⟩
  refine ex_loop3 (osSt k l) (fun i f h => 0 ≤ i ∧ i ≤ l.length ∧ f.length = i ∧ h.length = i ∧ f ++ (l.drop i.toNat).map (ofF k) = l.map (ofF k) ∧ h ++ (l.drop i.toNat).map (ofB k) = l.map (ofB k)) (fun i _ _ => (l.length - i).toNat) 0 [] [] ⟨by omega, by omega, by simp, by simp, rfl, rfl⟩ rfl ?_
  rintro i f h ⟨g1, g2, g3, g4, g5, g6⟩
  unfold osSt
  by_cases hi : i < l.length
  · have e2 : (i + 1).toNat = i.toNat + 1 := by omega
    have em := getD_map_at smpC l i [] g1 hi
    have ho := hg.ok i.toNat (by omega)
    rw [drop_cons l i.toNat (by omega), ← e2, List.map_cons] at g5 g6
    rw [List.append_cons] at g5 g6
    have ho2 := ho
    unfold okSmp at ho2
    have hb := recSp_bd hgk (at_ := (l.getD i.toNat default).a) (by omega)
    have eF : ofF k (l.getD i.toNat default) = ofF k (l.getD i.toNat default) := rfl
    have eB : ofB k (l.getD i.toNat default) = ofB k (l.getD i.toNat default) := rfl
    conv at eF => rhs; unfold ofF
    conv at eB => rhs; unfold ofB
    simp (maxSteps := 1000000) (disch := omega) only [go_sem, eq_self, decide_true, decide_false, not_true_eq_false, not_false_eq_true, reduceIte, reduceCtorEq, Nat.reduceEqDiff, Nat.reduceAdd, Nat.reduceSub, Nat.reduceLeDiff]
    refine CALL_det (reconstructedOf_fc k hgk _ (by omega)) (.inl rfl) ?_
    have hr : rfSp k (l.getD i.toNat default).a = if (recSp k (l.getD i.toNat default).a).2 = false then ((0, 0), false) else ((lowN (recSp k (l.getD i.toNat default).a).1.1 (recSp k (l.getD i.toNat default).a).1.2, lowD (recSp k (l.getD i.toNat default).a).1.1 (recSp k (l.getD i.toNat default).a).1.2), true) := rfl
    generalize recSp k (l.getD i.toNat default).a = x at *
    obtain ⟨⟨n, d⟩, b⟩ := x
    cases b with
    | false =>
      rw [if_pos rfl] at hr
      rw [hr] at eB
      simp only [Bool.false_and] at eB
      rw [eB, if_neg (by simp)] at eF
      rw [eF] at g5
      rw [eB] at g6
      rw [hr]
      simp (maxSteps := 1000000) (disch := omega) only [go_sem, eq_self, decide_true, decide_false, not_true_eq_false, not_false_eq_true, reduceIte, reduceCtorEq, Nat.reduceEqDiff, Nat.reduceAdd, Nat.reduceSub, Nat.reduceLeDiff]
      exact ⟨i + 1, f ++ [(0, 1)], h ++ [false], by simp only [osSt, List.map_append, List.map_cons, List.map_nil, frC_eq, bC_eq], ⟨by omega, by omega, by simp; omega, by simp; omega, g5, g6⟩, by omega⟩
    | true =>
      obtain ⟨h1, h2⟩ := hb rfl
      simp only at h1 h2
      rw [if_neg (by simp)] at hr
      simp only at hr
      obtain ⟨e3, e4, e5, e6⟩ := low_eq n d (by omega)
      have hN := tdiv_bd (n := n) (g := lowG n d) (B := 2000000000000000000) e5 h1.1 h1.2
      have hD := tdiv_bd (n := d) (g := lowG n d) (B := 345686400000) e5 (by omega) h2.2
      change _ ∧ lowN n d ≤ _ at hN
      change _ ∧ lowD n d ≤ _ at hD
      have hN1 : -2000000000000000000 ≤ lowN n d := hN.1
      clear e3 e4 hb
      rw [hr] at eB
      simp only [Bool.true_and] at eB
      rw [hr]
      generalize lowN n d = N at *
      generalize lowD n d = D at *
      by_cases q : (l.getD i.toNat default).q = 2
      · have e9 : decide ((l.getD i.toNat default).q ≠ 2) = false := decide_eq_false (by omega)
        rw [decide_eq_false (by omega)] at eB
        rw [eB, if_neg (by simp)] at eF
        rw [eF] at g5
        rw [eB] at g6
        simp (maxSteps := 1000000) (disch := omega) only [go_sem, eq_self, decide_true, decide_false, not_true_eq_false, not_false_eq_true, reduceIte, reduceCtorEq, Nat.reduceEqDiff, Nat.reduceAdd, Nat.reduceSub, Nat.reduceLeDiff]
        exact ⟨i + 1, f ++ [(0, 1)], h ++ [false], by simp only [e9, osSt, List.map_append, List.map_cons, List.map_nil, frC_eq, bC_eq], ⟨by omega, by omega, by simp; omega, by simp; omega, g5, g6⟩, by omega⟩
      · have e9 : decide ((l.getD i.toNat default).q ≠ 2) = true := decide_eq_true q
        rw [decide_eq_true q] at eB
        rw [eB, if_pos rfl, hr] at eF
        rw [eF] at g5
        rw [eB] at g6
        have hm := mul_bd (a := (l.getD i.toNat default).v) (b := D) (A := 1000000) (B := 345686400000) (by omega) (by omega)
        simp (maxSteps := 1000000) (disch := omega) only [go_sem, eq_self, decide_true, decide_false, not_true_eq_false, not_false_eq_true, reduceIte, reduceCtorEq, Nat.reduceEqDiff, Nat.reduceAdd, Nat.reduceSub, Nat.reduceLeDiff]
        refine CALL_det (far_fc N ((l.getD i.toNat default).v * D) (by omega) (by omega)) (.inl rfl) ?_
        simp (maxSteps := 1000000) (disch := omega) only [go_sem, eq_self, decide_true, decide_false, not_true_eq_false, not_false_eq_true, reduceIte, reduceCtorEq, Nat.reduceEqDiff, Nat.reduceAdd, Nat.reduceSub, Nat.reduceLeDiff]
        refine CALL_det (lowest_fc (max (N - (l.getD i.toNat default).v * D) ((l.getD i.toNat default).v * D - N)) D (by omega) (by omega) (by omega)) (.inl rfl) ?_
        simp (maxSteps := 1000000) (disch := omega) only [go_sem, eq_self, decide_true, decide_false, not_true_eq_false, not_false_eq_true, reduceIte, reduceCtorEq, Nat.reduceEqDiff, Nat.reduceAdd, Nat.reduceSub, Nat.reduceLeDiff]
        exact ⟨i + 1, f ++ [_], h ++ [true], by simp only [e9, osSt, List.map_append, List.map_cons, List.map_nil, frC_eq, bC_eq], ⟨by omega, by omega, by simp; omega, by simp; omega, g5, g6⟩, by omega⟩
  · rw [List.drop_eq_nil_of_le (by omega), List.map_nil, List.append_nil] at g5 g6
    rw [← g5, ← g6]
    simp (maxSteps := 1000000) (disch := omega) only [go_sem, eq_self, decide_true, decide_false, not_true_eq_false, not_false_eq_true, reduceIte, reduceCtorEq, Nat.reduceEqDiff, Nat.reduceAdd, Nat.reduceSub, Nat.reduceLeDiff]
theorem mulLess_fc (a b c d : Int) (ha : 0 ≤ a ∧ a ≤ 9223372036854775807) (hb : 0 ≤ b ∧ b ≤ 9223372036854775807) (hc : 0 ≤ c ∧ c ≤ 9223372036854775807) (hd : 0 ≤ d ∧ d ≤ 9223372036854775807) : FC Try.prog 147 none [iv a, iv b, iv c, iv d] (fun _ r => r = bv (decide (a * b < c * d))) := by
  obtain ⟨a, rfl⟩ := Int.eq_ofNat_of_zero_le ha.1
  obtain ⟨b, rfl⟩ := Int.eq_ofNat_of_zero_le hb.1
  obtain ⟨c, rfl⟩ := Int.eq_ofNat_of_zero_le hc.1
  obtain ⟨d, rfl⟩ := Int.eq_ofNat_of_zero_le hd.1
  have e1 := mul64_fc a b (by omega) (by omega)
  have e2 := mul64_fc c d (by omega) (by omega)
  rw [← Int.natCast_mul, ← Int.natCast_mul]
  refine fc_mulLess (by simp +arith) ?_
  generalize a * b = x at *
  generalize c * d = y at *
  unfold C_mulLess
  simp (maxSteps := 1000000) (disch := omega) only [go_sem, eq_self, decide_true, decide_false, not_true_eq_false, not_false_eq_true, reduceIte, reduceCtorEq, Nat.reduceEqDiff, Nat.reduceAdd, Nat.reduceSub, Nat.reduceLeDiff]
  refine CALL_det e1 (.inl rfl) ?_
  simp (maxSteps := 1000000) (disch := omega) only [go_sem, eq_self, decide_true, decide_false, not_true_eq_false, not_false_eq_true, reduceIte, reduceCtorEq, Nat.reduceEqDiff, Nat.reduceAdd, Nat.reduceSub, Nat.reduceLeDiff]
  refine CALL_det e2 (.inl rfl) ?_
  by_cases c1 : x / 18446744073709551616 < y / 18446744073709551616
  · rw [decide_eq_true (show (x : Int) < (y : Int) by omega)]
    simp (maxSteps := 1000000) (disch := omega) only [go_sem, eq_self, decide_true, decide_false, not_true_eq_false, not_false_eq_true, reduceIte, reduceCtorEq, Nat.reduceEqDiff, Nat.reduceAdd, Nat.reduceSub, Nat.reduceLeDiff]
  by_cases c2 : x / 18446744073709551616 = y / 18446744073709551616
  · by_cases c3 : x % 18446744073709551616 < y % 18446744073709551616
    · rw [decide_eq_true (show (x : Int) < (y : Int) by omega)]
      simp (maxSteps := 1000000) (disch := omega) only [go_sem, eq_self, decide_true, decide_false, not_true_eq_false, not_false_eq_true, reduceIte, reduceCtorEq, Nat.reduceEqDiff, Nat.reduceAdd, Nat.reduceSub, Nat.reduceLeDiff]
      rw [decide_eq_true (by omega)]
    · rw [decide_eq_false (show ¬(x : Int) < (y : Int) by omega)]
      simp (maxSteps := 1000000) (disch := omega) only [go_sem, eq_self, decide_true, decide_false, not_true_eq_false, not_false_eq_true, reduceIte, reduceCtorEq, Nat.reduceEqDiff, Nat.reduceAdd, Nat.reduceSub, Nat.reduceLeDiff]
      rw [decide_eq_false (by omega)]
  · rw [decide_eq_false (show ¬(x : Int) < (y : Int) by omega)]
    simp (maxSteps := 1000000) (disch := omega) only [go_sem, eq_self, decide_true, decide_false, not_true_eq_false, not_false_eq_true, reduceIte, reduceCtorEq, Nat.reduceEqDiff, Nat.reduceAdd, Nat.reduceSub, Nat.reduceLeDiff]
theorem lt_law {b d x r y t : Int} (hb : 1 ≤ b) (hd : 1 ≤ d) (hr : 0 ≤ r ∧ r < b) (ht : 0 ≤ t ∧ t < d) : (b * x + r) * d < (d * y + t) * b ↔ (x < y ∨ (x = y ∧ r * d < t * b)) := by
  have e1 : (b * x + r) * d = b * d * x + r * d := by rw [Int.add_mul, Int.mul_right_comm]
  have e2 : (d * y + t) * b = b * d * y + t * b := by rw [Int.add_mul, Int.mul_right_comm, Int.mul_comm d b]
  have h1 : r * d < b * d := Int.mul_lt_mul_of_pos_right hr.2 (by omega)
  have h2 : t * b < b * d := by rw [Int.mul_comm b d]; exact Int.mul_lt_mul_of_pos_right ht.2 (by omega)
  have h3 : 0 ≤ r * d := Int.mul_nonneg hr.1 (by omega)
  have h4 : 0 ≤ t * b := Int.mul_nonneg ht.1 (by omega)
  rw [e1, e2]
  rcases Int.lt_trichotomy x y with h | h | h
  · have := Int.mul_le_mul_of_nonneg_left (show x + 1 ≤ y by omega) (show 0 ≤ b * d by omega)
    rw [Int.mul_add, Int.mul_one] at this
    exact ⟨fun _ => .inl h, fun _ => by omega⟩
  · subst h
    exact ⟨fun h => .inr ⟨rfl, by omega⟩, fun h => by omega⟩
  · have := Int.mul_le_mul_of_nonneg_left (show y + 1 ≤ x by omega) (show 0 ≤ b * d by omega)
    rw [Int.mul_add, Int.mul_one] at this
    exact ⟨fun h => by omega, fun h' => by omega⟩
theorem lessThan_fc (a b c d : Int) (ha : 0 ≤ a ∧ a ≤ 9223372036854775807) (hb : 1 ≤ b ∧ b ≤ 9223372036854775807) (hc : 0 ≤ c ∧ c ≤ 9223372036854775807) (hd : 1 ≤ d ∧ d ≤ 9223372036854775807) : FC Try.prog 91 none [.ag (frC (a, b)), .ag (frC (c, d))] (fun _ r => r = bv (decide (a * d < c * b))) := by
  refine fc_lessThan (by simp +arith) ?_
  have q1 := Int.tdiv_le_self b ha.1
  have q2 := Int.tdiv_nonneg ha.1 (show 0 ≤ b by omega)
  have q3 := Int.tdiv_le_self d hc.1
  have q4 := Int.tdiv_nonneg hc.1 (show 0 ≤ d by omega)
  have r1 := Int.tmod_nonneg b ha.1
  have r2 := Int.tmod_lt_of_pos a (show 0 < b by omega)
  have r3 := Int.tmod_nonneg d hc.1
  have r4 := Int.tmod_lt_of_pos c (show 0 < d by omega)
  have e1 := Int.mul_tdiv_add_tmod a b
  have e2 := Int.mul_tdiv_add_tmod c d
  have hl := lt_law (b := b) (d := d) (x := a.tdiv b) (r := a.tmod b) (y := c.tdiv d) (t := c.tmod d) (by omega) (by omega) (by omega) (by omega)
  rw [e1, e2] at hl
  unfold C_lessThan
  by_cases c1 : a.tdiv b = c.tdiv d
  · simp (maxSteps := 1000000) (disch := omega) only [go_sem, eq_self, decide_true, decide_false, not_true_eq_false, not_false_eq_true, reduceIte, reduceCtorEq, Nat.reduceEqDiff, Nat.reduceAdd, Nat.reduceSub, Nat.reduceLeDiff]
    refine CALL_det (mulLess_fc (a.tmod b) d (c.tmod d) b (by omega) (by omega) (by omega) (by omega)) (.inl rfl) ?_
    simp (maxSteps := 1000000) (disch := omega) only [go_sem, eq_self, decide_true, decide_false, not_true_eq_false, not_false_eq_true, reduceIte, reduceCtorEq, Nat.reduceEqDiff, Nat.reduceAdd, Nat.reduceSub, Nat.reduceLeDiff]
    exact bv_dec ⟨fun h => hl.2 (.inr ⟨c1, h⟩), fun h => by rcases hl.1 h with h | h; omega; exact h.2⟩
  · simp (maxSteps := 1000000) (disch := omega) only [go_sem, eq_self, decide_true, decide_false, not_true_eq_false, not_false_eq_true, reduceIte, reduceCtorEq, Nat.reduceEqDiff, Nat.reduceAdd, Nat.reduceSub, Nat.reduceLeDiff]
    exact bv_dec ⟨fun h => hl.2 (.inl h), fun h => by rcases hl.1 h with h | h; exact h; omega⟩
end Go.Proofs.Ytggbcgldnjmobaa

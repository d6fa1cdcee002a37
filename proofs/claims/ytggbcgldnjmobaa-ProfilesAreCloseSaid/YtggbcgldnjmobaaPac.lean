
/-
  ProfilesAreClose returns true for every slice of integers, and leaves the slice as it was: the frame of a profile is closest to it, with no deviation; a deviation is the same the other way round. No condition.
-/
import Derived.Test.YtggbcgldnjmobaaPrg
import Derived.Test.YtggbcgldnjmobaaRdy
import Derived.Test.YtggbcgldnjmobaaGenC
import Derived.Test.YtggbcgldnjmobaaAiRow
import Derived.Test.YtggbcgldnjmobaaRows
namespace Go.Proofs.Ytggbcgldnjmobaa
open Go Go.Ai
set_option linter.unusedSimpArgs false
set_option linter.unusedVariables false
set_option maxHeartbeats 4000000
def A_pac : List Ann := [⟨(some ⟨[0], [], []⟩), [], [], [], []⟩, ⟨(some ⟨[3,21], [21], []⟩), [], [], [], []⟩, ⟨(some ⟨[3,4,5,6,21], [21], []⟩), [], [], [], []⟩, ⟨(some ⟨[3,4,5,6,21,35], [21], []⟩), [], [], [], []⟩, ⟨(some ⟨[2], [], []⟩), [], [], [], []⟩, ⟨(some ⟨[4,5,6,7,8,9], [], []⟩), [], [], [], []⟩, ⟨(some ⟨[4,5,6,7,9,56], [], []⟩), [], [], [], []⟩, ⟨(some ⟨[2], [], []⟩), [], [], [], []⟩, ⟨(some ⟨[4,5,6,7,9,10,11], [], []⟩), [], [], [], []⟩, ⟨(some ⟨[4,5,6,7,10,92], [], []⟩), [], [], [], []⟩, ⟨(some ⟨[2], [], []⟩), [], [], [], []⟩, ⟨(some ⟨[7,9,12,13], [], []⟩), [], [], [], []⟩, ⟨(some ⟨[7,12,109], [], []⟩), [], [], [], []⟩, ⟨(some ⟨[2], [], []⟩), [], [], [], []⟩, ⟨(some ⟨[7,9,12,14,15], [], []⟩), [], [], [], []⟩, ⟨(some ⟨[9,14,15,16,17,18], [], []⟩), [], [], [], []⟩, ⟨(some ⟨[2], [], []⟩), [], [], [], []⟩]
def C_pac : AC := (.seq (.reg false [⟨(some 2), none, .mv (.v (.bool false))⟩] (some ⟨[0], [], []⟩))
  (.seq (.reg false [⟨(some 19), none, .mv (.t 0)⟩, ⟨(some 20), none, .build [(.slice none 0 0), (.int .i64 (0))] [(0, 1, (.t 19))]⟩, ⟨(some 21), none, .box (.t 20)⟩, ⟨(some 3), none, .mv (.t 21)⟩] (some ⟨[3,21], [21], []⟩))
  (.seq (.reg false [⟨(some 22), none, .mv (.t 3)⟩, ⟨(some 23), none, .callx (.f 38) [(.t 22), (.v (.int .i64 (12)))]⟩, ⟨(some 24), none, .mv (.t 3)⟩, ⟨(some 25), none, .callx (.f 39) [(.t 24)]⟩, ⟨(some 26), none, .mv (.t 3)⟩, ⟨(some 27), none, .callx (.f 40) [(.t 26), (.v (.int .i64 (1))), (.v (.int .i64 (6)))]⟩, ⟨(some 4), none, .mv (.t 23)⟩, ⟨(some 5), none, .mv (.t 25)⟩, ⟨(some 6), none, .mv (.t 27)⟩] (some ⟨[3,4,5,6,21], [21], []⟩))
  (.seq (.seq (.reg false [⟨(some 28), none, .mv (.t 5)⟩, ⟨(some 29), none, .call (.f 41) [(.t 28)]⟩, ⟨(some 30), none, .bin .neq (.t 29) (.v (.int .i64 (0)))⟩, ⟨(some 31), none, .mv (.t 30)⟩, ⟨(some 32), (some (31, false)), .mv (.t 5)⟩, ⟨(some 33), (some (31, false)), .len (.t 32)⟩, ⟨(some 34), (some (31, false)), .bin .eql (.t 33) (.v (.int .i64 (0)))⟩, ⟨(some 35), none, .pick (.t 31) (.v (.bool true)) (.t 34)⟩] (some ⟨[3,4,5,6,21,35], [21], []⟩))
  (.cond (.t 35)
  (.seq (.reg false [⟨(some 36), none, .call (.f 42) []⟩, ⟨(some 2), none, .mv (.t 36)⟩] (some ⟨[2], [], []⟩))
  .ret)
  .skip))
  (.seq (.reg false [⟨(some 38), none, .mv (.t 4)⟩, ⟨(some 39), none, .mv (.t 5)⟩, ⟨(some 40), none, .mv (.t 3)⟩, ⟨(some 41), none, .mv (.t 5)⟩, ⟨(some 42), none, .len (.t 41)⟩, ⟨(some 43), none, .callx (.f 44) [(.t 40), (.t 42)]⟩, ⟨(some 44), none, .iadr 2 (.t 39) (.t 43)⟩, ⟨(some 45), none, .load true 2 (.t 44)⟩, ⟨(some 46), none, .mv (.t 6)⟩, ⟨(some 47), none, .call (.f 43) [(.t 38), (.t 45), (.t 46)]⟩, ⟨(some 37), none, .mv (.t 47)⟩, ⟨(some 48), none, .extr (.t 37) 0⟩, ⟨(some 49), none, .extr (.t 37) 1⟩, ⟨(some 50), none, .extr (.t 37) 2⟩, ⟨(some 7), none, .mv (.t 48)⟩, ⟨(some 8), none, .mv (.t 49)⟩, ⟨(some 9), none, .mv (.t 50)⟩] (some ⟨[4,5,6,7,8,9], [], []⟩))
  (.seq (.seq (.reg false [⟨(some 51), none, .mv (.t 9)⟩, ⟨(some 52), none, .bin .neq (.t 51) (.v (.int .i64 (0)))⟩, ⟨(some 53), none, .mv (.t 52)⟩, ⟨(some 54), (some (53, false)), .mv (.t 8)⟩, ⟨(some 55), (some (53, false)), .un .not (.t 54)⟩, ⟨(some 56), none, .pick (.t 53) (.v (.bool true)) (.t 55)⟩] (some ⟨[4,5,6,7,9,56], [], []⟩))
  (.cond (.t 56)
  (.seq (.reg false [⟨(some 57), none, .mv (.t 9)⟩, ⟨(some 58), none, .bin .eql (.t 57) (.v (.int .i64 (0)))⟩, ⟨(some 59), none, .mv (.t 58)⟩, ⟨(some 60), (some (59, true)), .call (.f 42) []⟩, ⟨(some 61), none, .pick (.t 59) (.t 60) (.v (.bool false))⟩, ⟨(some 2), none, .mv (.t 61)⟩] (some ⟨[2], [], []⟩))
  .ret)
  .skip))
  (.seq (.reg false [⟨(some 63), none, .mv (.t 4)⟩, ⟨(some 64), none, .mv (.t 5)⟩, ⟨(some 65), none, .mv (.t 7)⟩, ⟨(some 66), none, .call (.f 45) [(.t 63), (.t 64), (.t 65)]⟩, ⟨(some 62), none, .mv (.t 66)⟩, ⟨(some 67), none, .extr (.t 62) 0⟩, ⟨(some 68), none, .extr (.t 62) 1⟩, ⟨(some 69), none, .extr (.t 62) 2⟩, ⟨(some 10), none, .mv (.t 67)⟩, ⟨(some 11), none, .mv (.t 68)⟩, ⟨(some 9), none, .mv (.t 69)⟩] (some ⟨[4,5,6,7,9,10,11], [], []⟩))
  (.seq (.seq (.reg false [⟨(some 70), none, .mv (.t 9)⟩, ⟨(some 71), none, .bin .neq (.t 70) (.v (.int .i64 (0)))⟩, ⟨(some 72), none, .mv (.t 71)⟩, ⟨(some 73), (some (72, false)), .mv (.t 11)⟩, ⟨(some 74), (some (72, false)), .un .not (.t 73)⟩, ⟨(some 75), none, .pick (.t 72) (.v (.bool true)) (.t 74)⟩, ⟨(some 76), none, .mv (.t 75)⟩, ⟨(some 77), (some (76, false)), .mv (.t 10)⟩, ⟨(some 78), (some (76, false)), .bin .lss (.t 77) (.v (.int .i64 (0)))⟩, ⟨(some 79), none, .pick (.t 76) (.v (.bool true)) (.t 78)⟩, ⟨(some 80), none, .mv (.t 79)⟩, ⟨(some 81), (some (80, false)), .mv (.t 10)⟩, ⟨(some 82), (some (80, false)), .mv (.t 5)⟩, ⟨(some 83), (some (80, false)), .len (.t 82)⟩, ⟨(some 84), (some (80, false)), .bin .geq (.t 81) (.t 83)⟩, ⟨(some 85), none, .pick (.t 80) (.v (.bool true)) (.t 84)⟩, ⟨(some 86), none, .mv (.t 85)⟩, ⟨(some 87), (some (86, false)), .mv (.t 7)⟩, ⟨(some 88), (some (86, false)), .len (.t 87)⟩, ⟨(some 89), (some (86, false)), .mv (.t 6)⟩, ⟨(some 90), (some (86, false)), .bin .add (.t 89) (.v (.int .i64 (1)))⟩, ⟨(some 91), (some (86, false)), .bin .neq (.t 88) (.t 90)⟩, ⟨(some 92), none, .pick (.t 86) (.v (.bool true)) (.t 91)⟩] (some ⟨[4,5,6,7,10,92], [], []⟩))
  (.cond (.t 92)
  (.seq (.reg false [⟨(some 2), none, .mv (.v (.bool false))⟩] (some ⟨[2], [], []⟩))
  .ret)
  .skip))
  (.seq (.reg false [⟨(some 94), none, .mv (.t 4)⟩, ⟨(some 95), none, .mv (.t 5)⟩, ⟨(some 96), none, .mv (.t 10)⟩, ⟨(some 97), none, .iadr 2 (.t 95) (.t 96)⟩, ⟨(some 98), none, .load true 2 (.t 97)⟩, ⟨(some 99), none, .mv (.t 6)⟩, ⟨(some 100), none, .call (.f 43) [(.t 94), (.t 98), (.t 99)]⟩, ⟨(some 93), none, .mv (.t 100)⟩, ⟨(some 101), none, .extr (.t 93) 0⟩, ⟨(some 102), none, .extr (.t 93) 1⟩, ⟨(some 103), none, .extr (.t 93) 2⟩, ⟨(some 12), none, .mv (.t 101)⟩, ⟨(some 13), none, .mv (.t 102)⟩, ⟨(some 9), none, .mv (.t 103)⟩] (some ⟨[7,9,12,13], [], []⟩))
  (.seq (.seq (.reg false [⟨(some 104), none, .mv (.t 9)⟩, ⟨(some 105), none, .bin .neq (.t 104) (.v (.int .i64 (0)))⟩, ⟨(some 106), none, .mv (.t 105)⟩, ⟨(some 107), (some (106, false)), .mv (.t 13)⟩, ⟨(some 108), (some (106, false)), .un .not (.t 107)⟩, ⟨(some 109), none, .pick (.t 106) (.v (.bool true)) (.t 108)⟩] (some ⟨[7,12,109], [], []⟩))
  (.cond (.t 109)
  (.seq (.reg false [⟨(some 2), none, .mv (.v (.bool false))⟩] (some ⟨[2], [], []⟩))
  .ret)
  .skip))
  (.seq (.reg false [⟨(some 111), none, .mv (.t 7)⟩, ⟨(some 112), none, .mv (.t 12)⟩, ⟨(some 113), none, .call (.f 46) [(.t 111), (.t 112)]⟩, ⟨(some 110), none, .mv (.t 113)⟩, ⟨(some 114), none, .extr (.t 110) 0⟩, ⟨(some 115), none, .extr (.t 110) 1⟩, ⟨(some 116), none, .extr (.t 110) 2⟩, ⟨(some 14), none, .mv (.t 114)⟩, ⟨(some 15), none, .mv (.t 115)⟩, ⟨(some 9), none, .mv (.t 116)⟩] (some ⟨[7,9,12,14,15], [], []⟩))
  (.seq (.reg false [⟨(some 118), none, .mv (.t 12)⟩, ⟨(some 119), none, .mv (.t 7)⟩, ⟨(some 120), none, .call (.f 46) [(.t 118), (.t 119)]⟩, ⟨(some 117), none, .mv (.t 120)⟩, ⟨(some 121), none, .extr (.t 117) 0⟩, ⟨(some 122), none, .extr (.t 117) 1⟩, ⟨(some 123), none, .extr (.t 117) 2⟩, ⟨(some 16), none, .mv (.t 121)⟩, ⟨(some 17), none, .mv (.t 122)⟩, ⟨(some 18), none, .mv (.t 123)⟩] (some ⟨[9,14,15,16,17,18], [], []⟩))
  (.seq (.reg false [⟨(some 124), none, .mv (.t 9)⟩, ⟨(some 125), none, .bin .eql (.t 124) (.v (.int .i64 (0)))⟩, ⟨(some 126), none, .mv (.t 125)⟩, ⟨(some 127), (some (126, true)), .mv (.t 18)⟩, ⟨(some 128), (some (126, true)), .bin .eql (.t 127) (.v (.int .i64 (0)))⟩, ⟨(some 129), none, .pick (.t 126) (.t 128) (.v (.bool false))⟩, ⟨(some 130), none, .mv (.t 129)⟩, ⟨(some 131), (some (130, true)), .mv (.t 14)⟩, ⟨(some 132), (some (130, true)), .bin .eql (.t 131) (.v (.int .i64 (0)))⟩, ⟨(some 133), none, .pick (.t 130) (.t 132) (.v (.bool false))⟩, ⟨(some 134), none, .mv (.t 133)⟩, ⟨(some 135), (some (134, true)), .mv (.t 16)⟩, ⟨(some 136), (some (134, true)), .bin .eql (.t 135) (.v (.int .i64 (0)))⟩, ⟨(some 137), none, .pick (.t 134) (.t 136) (.v (.bool false))⟩, ⟨(some 138), none, .mv (.t 137)⟩, ⟨(some 139), (some (138, true)), .mv (.t 15)⟩, ⟨(some 140), (some (138, true)), .bin .eql (.t 139) (.v (.int .i64 (0)))⟩, ⟨(some 141), none, .pick (.t 138) (.t 140) (.v (.bool false))⟩, ⟨(some 142), none, .mv (.t 141)⟩, ⟨(some 143), (some (142, true)), .mv (.t 17)⟩, ⟨(some 144), (some (142, true)), .bin .eql (.t 143) (.v (.int .i64 (0)))⟩, ⟨(some 145), none, .pick (.t 142) (.t 144) (.v (.bool false))⟩, ⟨(some 146), none, .mv (.t 145)⟩, ⟨(some 147), (some (146, true)), .call (.f 42) []⟩, ⟨(some 148), none, .pick (.t 146) (.t 147) (.v (.bool false))⟩, ⟨(some 2), none, .mv (.t 148)⟩] (some ⟨[2], [], []⟩))
  .ret)))))))))))))
theorem c_pac : compileCode Try.prog Try.f5.ntmps (Try.f5.body.getD .skip) A_pac = some (C_pac, []) := by kernel_rfl
theorem r_pac : compileRes Try.prog Try.f5.results.toList = some [.t 2] := by kernel_rfl
theorem b_pac : Try.f5.body = some (Try.f5.body.getD .skip) := by kernel_rfl
theorem n_pac : (Try.f5.name == "runtime.NumGoroutine") = false := by kernel_rfl
theorem fc_pac {xt : Option (List Cel)} {args : List Val} {R : List Cel → Val → Prop} (hn : (if xt.isSome then 1 else 0) + args.length ≤ Try.f5.ntmps) (h : ex Try.prog C_pac [] (fpost xt [.t 2] R) (initSt xt args)) : FC Try.prog 5 xt args R :=
  fc_of_awp Try.func5 b_pac n_pac c_pac r_pac (of_decide_eq_true (by kernel_rfl)) hn h


/-- A value lies between the least and the greatest one. -/
theorem valSp_le {l : List Smp} (hg : Good l) (st : Bool) {at_ : Int} (ha : 0 ≤ at_ ∧ at_ ≤ 345686400000) (h : (valSp l st at_).2 = true) :
    -1000000 * (valSp l st at_).1.d ≤ (valSp l st at_).1.n ∧ (valSp l st at_).1.n ≤ 1000000 * (valSp l st at_).1.d := by
  obtain ⟨h1, h2, h3, h4⟩ := hold_spec l at_ (fun i j h h' => hg.le i j h h')
  have hdef : valSp l st at_ = valSp l st at_ := rfl
  conv at hdef => rhs; unfold valSp
  rw [hdef] at h ⊢
  simp only [] at h ⊢
  split at h
  · cases h
  · rename_i hk
    have hok := hg.ok (hold l at_).toNat (by omega)
    rw [if_neg hk]
    by_cases hc : (l.getD (hold l at_).toNat default).q = 2 ∨ st = true ∨ (l.getD (hold l at_).toNat default).a = at_ ∨ hold l at_ + 1 = l.length ∨ (l.getD (hold l at_ + 1).toNat default).q = 2
    · rw [if_pos hc]
      unfold okSmp at hok
      simp only
      omega
    · rw [if_neg hc]
      simp only []
      have hc' : ¬ hold l at_ + 1 = l.length := fun h => hc (.inr (.inr (.inr (.inl h))))
      have hokn := hg.ok (hold l at_ + 1).toNat (by omega)
      have hup := hg.up (hold l at_).toNat (hold l at_ + 1).toNat (by omega) (by omega)
      have ha2 := h3 (hold l at_).toNat (by omega) (by omega)
      have ha3 := h4 (hold l at_ + 1).toNat (by omega) (by omega)
      generalize l.getD (hold l at_).toNat default = p at *
      generalize l.getD (hold l at_ + 1).toNat default = n at *
      have hN : lineN p n at_ = p.v * (n.a - p.a) + (n.v - p.v) * (at_ - p.a) := rfl
      have hlow := low_eq (lineN p n at_) (n.a - p.a) (by omega)
      unfold okSmp at *
      have key : -1000000 * (n.a - p.a) ≤ lineN p n at_ ∧ lineN p n at_ ≤ 1000000 * (n.a - p.a) := by
        have hx : lineN p n at_ = p.v * (n.a - at_) + n.v * (at_ - p.a) := by
          rw [hN, Int.sub_mul, Int.mul_sub, Int.mul_sub, Int.mul_sub, Int.mul_sub]; omega
        have m1 := Int.mul_le_mul_of_nonneg_right (show p.v ≤ 1000000 by omega) (show 0 ≤ n.a - at_ by omega)
        have m2 := Int.mul_le_mul_of_nonneg_right (show -1000000 ≤ p.v by omega) (show 0 ≤ n.a - at_ by omega)
        have m3 := Int.mul_le_mul_of_nonneg_right (show n.v ≤ 1000000 by omega) (show 0 ≤ at_ - p.a by omega)
        have m4 := Int.mul_le_mul_of_nonneg_right (show -1000000 ≤ n.v by omega) (show 0 ≤ at_ - p.a by omega)
        rw [hx]; omega
      have w1 := (low_win (-1000000) (lineN p n at_) (n.a - p.a) (by omega)).1
      refine ⟨w1.2 key.1, ?_⟩
      obtain ⟨z1, z2, z3, z4⟩ := hlow
      generalize lowG (lineN p n at_) (n.a - p.a) = g at *
      generalize lowN (lineN p n at_) (n.a - p.a) = NN at *
      generalize lowD (lineN p n at_) (n.a - p.a) = DD at *
      have z5 : g * NN ≤ g * (1000000 * DD) := by rw [Int.mul_left_comm, ← z1, ← z2]; exact key.2
      exact Int.le_of_mul_le_mul_left z5 (by omega)
theorem thS_le {n d : Int} (hd : 1 ≤ d) (h1 : -1000000 * d ≤ n) (h2 : n ≤ 1000000 * d) : -1000000000 ≤ thS n d ∧ thS n d ≤ 1000000000 := by
  have e := Int.mul_ediv_add_emod n d
  have k1 := Int.emod_nonneg n (show d ≠ 0 by omega)
  have k2 := Int.emod_lt_of_pos n (show 0 < d by omega)
  have k3 : -1000000 ≤ n / d := Int.le_ediv_of_mul_le (by omega) h1
  have k4 : n / d ≤ 1000000 := Int.ediv_le_of_le_mul (by omega) h2
  have k5 : 0 ≤ (1000 * (n % d)).tdiv d := Int.tdiv_nonneg (by omega) (by omega)
  have k6 : (1000 * (n % d)).tdiv d ≤ 999 := by
    rw [Int.tdiv_eq_ediv_of_nonneg (by omega)]
    have : 1000 * (n % d) / d < 1000 := Int.ediv_lt_of_lt_mul (by omega) (by omega)
    omega
  unfold thS
  by_cases c : n / d = 1000000
  · rw [c] at e
    have e0 : n % d = 0 := by omega
    rw [c, e0]
    simp
  · omega
theorem thV_le {l : List Smp} (hg : Good l) (st : Bool) {at_ : Int} (ha : 0 ≤ at_ ∧ at_ ≤ 345686400000) : -1000000000 ≤ (thV l st at_).1 ∧ (thV l st at_).1 ≤ 1000000000 := by
  have hbd := valSp_bd hg st ha
  have hle := valSp_le hg st ha
  unfold thV
  split
  · simp only []; omega
  · rename_i h
    have h2 : (valSp l st at_).2 = true := by
      cases h3 : (valSp l st at_).2 with
      | true => rfl
      | false => exact absurd (.inl h3) h
    exact thS_le (hbd h2).2.1 (hle h2).1 (hle h2).2
theorem pr_le {l : List Smp} (hg : Good l) {f t n : Int} (hw : 0 ≤ f ∧ f < t ∧ t ≤ 345686400000) (hn : 1 ≤ n ∧ n ≤ 1000) : ∀ m : Nat, (m : Int) ≤ n + 1 → ∀ x ∈ prL l f t n m, -1000000000 ≤ x ∧ x ≤ 1000000000
  | 0, _ => fun x hx => by cases hx
  | m + 1, hm => fun x hx => by
    rw [prL, List.mem_append] at hx
    rcases hx with hx | hx
    · exact pr_le hg hw hn m (by omega) x hx
    · simp only [List.mem_singleton] at hx
      subst hx
      obtain ⟨_, _, m3, m4⟩ := prAt_bd hw hn (show 0 ≤ (m : Int) ∧ (m : Int) ≤ n by omega)
      exact thV_le hg false (by omega)
/-- A profile is right. -/
theorem pr_pf {l : List Smp} (hg : Good l) {f t n : Int} (hw : 0 ≤ f ∧ f < t ∧ t ≤ 345686400000) (hn : 1 ≤ n ∧ n ≤ 1000) (h : (prSp l f t n).2 = true) : pfF (prSp l f t n).1 = 0 := by
  obtain ⟨h1, h2⟩ := pr_len h (by omega)
  have h3 := pr_le hg hw hn (n + 1).toNat (by omega)
  rw [← h2] at h3
  unfold pfF
  rw [if_neg (by omega), if_neg (by omega), if_neg]
  rw [Bool.not_eq_true, List.any_eq_false]
  intro x hx
  have := h3 x hx
  unfold badP
  rw [decide_eq_true_eq]
  omega
theorem dvA_comm (a b : List Int) (i : Nat) : dvA a b i = dvA b a i := by unfold dvA; omega
theorem dvA_self (a : List Int) (i : Nat) : dvA a a i = 0 := by unfold dvA; omega
theorem bst_max (a b : List Int) : ∀ n i, i < n → dvA a b i ≤ dvA a b (bst a b n)
  | 0, i, h => by omega
  | n + 1, i, h => by
    rw [bst]
    by_cases c : dvA a b n > dvA a b (bst a b n)
    · rw [if_pos c]
      by_cases e : i = n
      · subst e; omega
      · have := bst_max a b n i (by omega); omega
    · rw [if_neg c]
      by_cases e : i = n
      · subst e; omega
      · exact bst_max a b n i (by omega)
theorem bst_zero {a b : List Int} : ∀ n, (∀ i, i < n → dvA a b i = 0) → bst a b n = 0
  | 0, _ => rfl
  | n + 1, h => by
    have ih := bst_zero n (fun i hi => h i (by omega))
    rw [bst, ih, h n (by omega), h 0 (by omega), if_neg (by omega)]
/-- No deviation: none the other way round, and both at the beginning. -/
theorem dev_zero {a b : List Int} (hl : a.length = b.length) (h1 : 1 ≤ a.length) (h : (devSp a b).1 = 0) : devSp a b = (0, 0) ∧ devSp b a = (0, 0) := by
  unfold devSp at h
  simp only at h
  have h0 : ∀ i, i < a.length → dvA a b i = 0 := fun i hi => by
    have h2 := bst_max a b a.length i hi
    have h3 : 0 ≤ dvA a b i := by unfold dvA; omega
    omega
  have h0' : ∀ i, i < b.length → dvA b a i = 0 := fun i hi => by rw [dvA_comm]; exact h0 i (by omega)
  unfold devSp
  rw [bst_zero _ h0, bst_zero _ h0', h0 0 (by omega), h0' 0 (by omega)]
  exact ⟨rfl, rfl⟩
theorem dev_self (a : List Int) : (devSp a a).1 = 0 := by unfold devSp; exact dvA_self a _
/-- The closest frame is the closest. -/
theorem clGo_min (l : List Smp) (g : List Int) : ∀ (fs : List (Int × Int)) (i : Int) (x : Int × Int), 0 ≤ i →
    (0 ≤ x.2 → 0 ≤ (clGo l g i x fs).2 ∧ (clGo l g i x fs).1 ≤ x.1) ∧
    (∀ w ∈ fs, (prSp l w.1 w.2 (g.length - 1)).2 = true → 0 ≤ (clGo l g i x fs).2 ∧ (clGo l g i x fs).1 ≤ (devSp (prSp l w.1 w.2 (g.length - 1)).1 g).1) ∧
    (clGo l g i x fs = x ∨ ∃ m, m < fs.length ∧ (clGo l g i x fs).2 = i + m ∧ (prSp l (fs.getD m default).1 (fs.getD m default).2 (g.length - 1)).2 = true ∧ (clGo l g i x fs).1 = (devSp (prSp l (fs.getD m default).1 (fs.getD m default).2 (g.length - 1)).1 g).1)
  | [], i, x, hi => by
    rw [clGo]
    exact ⟨fun h => ⟨h, by omega⟩, fun w hw => (by cases hw), .inl rfl⟩
  | w :: r, i, x, hi => by
    rw [clGo]
    obtain ⟨h1, h2, h3⟩ := clGo_min l g r (i + 1) (clStep l g x i w) (by omega)
    unfold clStep at *
    by_cases c1 : (prSp l w.1 w.2 (g.length - 1)).2 = false
    · rw [if_pos c1] at *
      refine ⟨h1, fun v hv hok => ?_, ?_⟩
      · rcases List.mem_cons.1 hv with rfl | hv
        · rw [c1] at hok; cases hok
        · exact h2 v hv hok
      · rcases h3 with h3 | ⟨m, m1, m2, m3, m4⟩
        · exact .inl h3
        · exact .inr ⟨m + 1, by simpa using m1, by rw [m2]; omega, m3, m4⟩
    · rw [if_neg c1] at *
      have c1' : (prSp l w.1 w.2 (g.length - 1)).2 = true := by simpa using c1
      by_cases c2 : x.2 < 0 ∨ (devSp (prSp l w.1 w.2 (g.length - 1)).1 g).1 < x.1
      · rw [if_pos c2] at *
        have k1 := h1 hi
        simp only at k1
        refine ⟨fun h => ⟨k1.1, by omega⟩, fun v hv hok => ?_, ?_⟩
        · rcases List.mem_cons.1 hv with rfl | hv
          · exact k1
          · exact h2 v hv hok
        · rcases h3 with h3 | ⟨m, m1, m2, m3, m4⟩
          · exact .inr ⟨0, by simp, by rw [h3]; simp, c1', by rw [h3]; rfl⟩
          · exact .inr ⟨m + 1, by simpa using m1, by rw [m2]; omega, m3, m4⟩
      · rw [if_neg c2] at *
        refine ⟨h1, fun v hv hok => ?_, ?_⟩
        · rcases List.mem_cons.1 hv with rfl | hv
          · have := h1 (by omega)
            exact ⟨this.1, by omega⟩
          · exact h2 v hv hok
        · rcases h3 with h3 | ⟨m, m1, m2, m3, m4⟩
          · exact .inl h3
          · exact .inr ⟨m + 1, by simpa using m1, by rw [m2]; omega, m3, m4⟩
theorem fw_at {fs : List (Int × Int)} (h : fwF fs = 0) {j : Nat} (hj : j < fs.length) : 0 ≤ (fs.getD j default).1 ∧ (fs.getD j default).1 < (fs.getD j default).2 ∧ (fs.getD j default).2 ≤ 345686400000 := by
  have := (fwF_ok h).2.ge _ (getD_mem fs j hj)
  omega
/-- The frame of a profile is closest to it: none deviates. -/
theorem close_self {l : List Smp} (hg : Good l) {fs : List (Int × Int)} (hf : fwF fs = 0) {n : Int} (hn : 1 ≤ n ∧ n ≤ 1000) {j : Nat} (hj : j < fs.length)
    (hok : (prSp l (fs.getD j default).1 (fs.getD j default).2 n).2 = true) {p : List Int} (hp : p = (prSp l (fs.getD j default).1 (fs.getD j default).2 n).1) :
    ∃ m : Nat, m < fs.length ∧ (clGo l p 0 (0, -1) fs).2 = m ∧ ((p.length : Int) = n + 1 ∧ pfF p = 0) ∧ (prSp l (fs.getD m default).1 (fs.getD m default).2 n).2 = true ∧
      (pfF (prSp l (fs.getD m default).1 (fs.getD m default).2 n).1 = 0 ∧ p.length = (prSp l (fs.getD m default).1 (fs.getD m default).2 n).1.length) ∧
      devSp p (prSp l (fs.getD m default).1 (fs.getD m default).2 n).1 = (0, 0) ∧ devSp (prSp l (fs.getD m default).1 (fs.getD m default).2 n).1 p = (0, 0) := by
  have hlen := (pr_len hok (by omega)).1
  have hpf := pr_pf hg (fw_at hf hj) hn hok
  rw [← hp] at hlen hpf
  have e1 : (p.length : Int) - 1 = n := by omega
  obtain ⟨h1, h2, h3⟩ := clGo_min l p fs 0 (0, -1) (by omega)
  rw [e1] at h2 h3
  have h4 := h2 _ (getD_mem fs j hj) hok
  rw [← hp, dev_self] at h4
  rcases h3 with h3 | ⟨m, m1, m2, m3, m4⟩
  · rw [h3] at h4; simp only at h4; omega
  · have l2 := (pr_len m3 (by omega)).1
    have pf2 := pr_pf hg (fw_at hf m1) hn m3
    have hd := dv_bd (a := (prSp l (fs.getD m default).1 (fs.getD m default).2 n).1) (b := p) (by omega) (by omega) (pf_okI pf2) (pf_okI hpf)
    have hz := dev_zero (a := (prSp l (fs.getD m default).1 (fs.getD m default).2 n).1) (b := p) (by omega) (by omega) (by omega)
    exact ⟨m, m1, by rw [m2]; omega, ⟨hlen, hpf⟩, m3, ⟨pf2, by omega⟩, hz.2, hz.1⟩
theorem pf_of {l : List Smp} (hs : serFault l = 0) {f t n : Int} (hw : 0 ≤ f ∧ f < t ∧ t ≤ 345686400000) (hn : 1 ≤ n ∧ n ≤ 1000) : pfSp l f t n = ((prSp l f t n).1, (prSp l f t n).2, 0) := by
  unfold pfSp
  have e : w1F f t = 0 := by unfold w1F; rw [if_neg (by omega)]
  rw [hs, e, if_neg (by decide), if_neg (by omega)]
theorem cl_of {l : List Smp} (hs : serFault l = 0) {fs : List (Int × Int)} (hf : fwF fs = 0) {g : List Int} (hg : pfF g = 0) {m : Nat} (h : (clGo l g 0 (0, -1) fs).2 = m) : clSp l fs g = ((m : Int), true, 0) := by
  unfold clSp
  rw [hs, hf, hg, if_neg (by decide), h, if_neg (by omega)]
theorem dp_of {a b : List Int} (ha : pfF a = 0) (hb : pfF b = 0) (hl : a.length = b.length) (h : devSp a b = (0, 0)) : dpSp a b = (0, 0, 0) := by
  unfold dpSp
  rw [ha, hb, if_neg (by decide), if_neg (by omega), h]
set_option maxHeartbeats 12000000 in
set_option maxRecDepth 8000 in
theorem pac_fc (L : List Int) (hL : ∀ x ∈ L, I64 x) (hl : L.length ≤ 9223372036854775807) : FC Try.prog 5 none [ints false L] (fun _ r => r = bv true) := by
  refine fc_pac (by simp +arith) ?_
  unfold C_pac
  simp (maxSteps := 1000000) (disch := omega) only [go_sem, eq_self, decide_true, decide_false, not_true_eq_false, not_false_eq_true, reduceIte, reduceCtorEq, Nat.reduceEqDiff, Nat.reduceAdd, Nat.reduceSub, Nat.reduceLeDiff]
  refine callx_gen (p := 0) (rightCurve_fc 12 (by omega) (by omega)) hL hl (by omega) (by omega) ⟨_, [], rfl, by simp, rfl⟩ ?_
  rintro pa r ha1 ha2 ⟨c, hs, hlm, rfl⟩
  refine ⟨rfl, ?_⟩
  unfold strm
  simp (maxSteps := 1000000) (disch := omega) only [go_sem, eq_self, decide_true, decide_false, not_true_eq_false, not_false_eq_true, reduceIte, reduceCtorEq, Nat.reduceEqDiff, Nat.reduceAdd, Nat.reduceSub, Nat.reduceLeDiff]
  refine callx_gen frameList_fc hL hl (by omega) (by omega) ⟨_, [], by simp, by simp, rfl⟩ ?_
  rintro pc r hc1 hc2 ⟨fs, hfl, hf64, rfl⟩
  refine ⟨rfl, ?_⟩
  unfold strm
  simp (maxSteps := 1000000) (disch := omega) only [go_sem, eq_self, decide_true, decide_false, not_true_eq_false, not_false_eq_true, reduceIte, reduceCtorEq, Nat.reduceEqDiff, Nat.reduceAdd, Nat.reduceSub, Nat.reduceLeDiff]
  refine callx_gen (range_fc 1 6 (by omega) (by omega) (by omega)) hL hl (by omega) (by omega) ⟨_, 1, by omega, by omega, rfl⟩ ?_
  rintro pb r hb1 hb2 ⟨n, hn1, hn2, rfl⟩
  refine ⟨rfl, ?_⟩
  unfold strm
  have hg := good_of hs
  simp (maxSteps := 1000000) (disch := omega) only [go_sem, eq_self, decide_true, decide_false, not_true_eq_false, not_false_eq_true, reduceIte, reduceCtorEq, Nat.reduceEqDiff, Nat.reduceAdd, Nat.reduceSub, Nat.reduceLeDiff]
  refine CALL_det (frameFault_fc fs (by omega)) (.inl rfl) ?_
  by_cases h1 : fwF fs = 0
  · rw [h1]
    by_cases h2 : 0 < fs.length
    · simp (maxSteps := 1000000) (disch := omega) only [go_sem, eq_self, decide_true, decide_false, not_true_eq_false, not_false_eq_true, reduceIte, reduceCtorEq, Nat.reduceEqDiff, Nat.reduceAdd, Nat.reduceSub, Nat.reduceLeDiff]
      refine callx_gen (next_fc fs.length (by omega) (by omega)) hL hl (by omega) (by omega) ⟨_, 0, by omega, by omega, rfl⟩ ?_
      rintro pj r haj hbj ⟨zj, hzj, hyj, rfl⟩
      refine ⟨rfl, ?_⟩
      unfold strm
      simp (maxSteps := 1000000) (disch := omega) only [go_sem, eq_self, decide_true, decide_false, not_true_eq_false, not_false_eq_true, reduceIte, reduceCtorEq, Nat.reduceEqDiff, Nat.reduceAdd, Nat.reduceSub, Nat.reduceLeDiff]
      have hj : zj.toNat < fs.length := by omega
      have hw := fw_at h1 hj
      have em := getD_map_at frC fs zj [] hzj hyj
      have hok := close_self hg h1 (n := n) (by omega) hj
      refine CALL_det (profileP_fc c (by omega) (fs.getD zj.toNat default).1 (fs.getD zj.toNat default).2 n) (.inl rfl) ?_
      rw [pf_of hs hw (by omega)]
      cases hb : (prSp c (fs.getD zj.toNat default).1 (fs.getD zj.toNat default).2 n).2 with
      | false =>
        simp (maxSteps := 1000000) (disch := omega) only [go_sem, eq_self, decide_true, decide_false, not_true_eq_false, not_false_eq_true, reduceIte, reduceCtorEq, Nat.reduceEqDiff, Nat.reduceAdd, Nat.reduceSub, Nat.reduceLeDiff]
        refine CALL_det ready_fc (.inl rfl) ?_
        simp (maxSteps := 1000000) (disch := omega) only [go_sem, eq_self, decide_true, decide_false, not_true_eq_false, not_false_eq_true, reduceIte, reduceCtorEq, Nat.reduceEqDiff, Nat.reduceAdd, Nat.reduceSub, Nat.reduceLeDiff]
      | true =>
        obtain ⟨m, m1, m2, ⟨m3, m4⟩, m5, ⟨m6, m7⟩, m8, m9⟩ := hok hb rfl
        have hw2 := fw_at h1 m1
        have em2 := getD_map_at frC fs (m : Int) [] (by omega) (by omega)
        rw [Int.toNat_natCast] at em2
        generalize (prSp c (fs.getD zj.toNat default).1 (fs.getD zj.toNat default).2 n).1 = P at *
        clear hok
        simp (maxSteps := 1000000) (disch := omega) only [go_sem, eq_self, decide_true, decide_false, not_true_eq_false, not_false_eq_true, reduceIte, reduceCtorEq, Nat.reduceEqDiff, Nat.reduceAdd, Nat.reduceSub, Nat.reduceLeDiff]
        refine CALL_det (closest_fc c (by omega) fs (by omega) P (by omega)) (.inl rfl) ?_
        rw [cl_of hs h1 m4 m2]
        simp (maxSteps := 1000000) (disch := omega) only [go_sem, eq_self, decide_true, decide_false, not_true_eq_false, not_false_eq_true, reduceIte, reduceCtorEq, Nat.reduceEqDiff, Nat.reduceAdd, Nat.reduceSub, Nat.reduceLeDiff]
        refine CALL_det (profileP_fc c (by omega) (fs.getD m default).1 (fs.getD m default).2 n) (.inl rfl) ?_
        rw [pf_of hs hw2 (by omega), m5]
        generalize (prSp c (fs.getD m default).1 (fs.getD m default).2 n).1 = Q at *
        simp (maxSteps := 1000000) (disch := omega) only [go_sem, eq_self, decide_true, decide_false, not_true_eq_false, not_false_eq_true, reduceIte, reduceCtorEq, Nat.reduceEqDiff, Nat.reduceAdd, Nat.reduceSub, Nat.reduceLeDiff]
        refine CALL_det (deviationP_fc P Q (by omega) (by omega)) (.inl rfl) ?_
        rw [dp_of m4 m6 m7 m8]
        simp (maxSteps := 1000000) (disch := omega) only [go_sem, eq_self, decide_true, decide_false, not_true_eq_false, not_false_eq_true, reduceIte, reduceCtorEq, Nat.reduceEqDiff, Nat.reduceAdd, Nat.reduceSub, Nat.reduceLeDiff]
        refine CALL_det (deviationP_fc Q P (by omega) (by omega)) (.inl rfl) ?_
        rw [dp_of m6 m4 m7.symm m9]
        simp (maxSteps := 1000000) (disch := omega) only [go_sem, eq_self, decide_true, decide_false, not_true_eq_false, not_false_eq_true, reduceIte, reduceCtorEq, Nat.reduceEqDiff, Nat.reduceAdd, Nat.reduceSub, Nat.reduceLeDiff]
        refine CALL_det ready_fc (.inl rfl) ?_
        simp (maxSteps := 1000000) (disch := omega) only [go_sem, eq_self, decide_true, decide_false, not_true_eq_false, not_false_eq_true, reduceIte, reduceCtorEq, Nat.reduceEqDiff, Nat.reduceAdd, Nat.reduceSub, Nat.reduceLeDiff]
    · simp (maxSteps := 1000000) (disch := omega) only [go_sem, eq_self, decide_true, decide_false, not_true_eq_false, not_false_eq_true, reduceIte, reduceCtorEq, Nat.reduceEqDiff, Nat.reduceAdd, Nat.reduceSub, Nat.reduceLeDiff]
      refine CALL_det ready_fc (.inl rfl) ?_
      simp (maxSteps := 1000000) (disch := omega) only [go_sem, eq_self, decide_true, decide_false, not_true_eq_false, not_false_eq_true, reduceIte, reduceCtorEq, Nat.reduceEqDiff, Nat.reduceAdd, Nat.reduceSub, Nat.reduceLeDiff]
  · simp (maxSteps := 1000000) (disch := omega) only [go_sem, eq_self, decide_true, decide_false, not_true_eq_false, not_false_eq_true, reduceIte, reduceCtorEq, Nat.reduceEqDiff, Nat.reduceAdd, Nat.reduceSub, Nat.reduceLeDiff]
    refine CALL_det ready_fc (.inl rfl) ?_
    simp (maxSteps := 1000000) (disch := omega) only [go_sem, eq_self, decide_true, decide_false, not_true_eq_false, not_false_eq_true, reduceIte, reduceCtorEq, Nat.reduceEqDiff, Nat.reduceAdd, Nat.reduceSub, Nat.reduceLeDiff]
theorem pac_own : ownKnob Try.prog.godebug = none := by kernel_rfl
theorem pac_laid : laidOutB Try.prog = true := by kernel_rfl
set_option maxRecDepth 100000 in
theorem pac_lifted (os : Os) (started : os.Started) (H : Type) (enc : TypeId × Value → H) :
    ReturnsInHanded {} Try.checked os 5 .any (Rows.profilesAreCloseSpec.pre6 enc Try.prog Try.f5 Rows.profilesAreCloseRow.domain false) (Rows.profilesAreCloseSpec.post enc Try.prog Try.f5 false true false false) := by
  refine returnsInHanded_of_change (C := Try.checked) pac_own started (by kernel_rfl) Try.func5
    (ChangeSpec.witness6 (enc := enc) (C := Try.checked) false ⟨#[], #[.slice none 0 0], []⟩ 8 (by kernel_rfl) (by kernel_rfl) (by kernel_rfl) (by kernel_rfl)) ?_
  intro W base args ds gs before hval hW _ _
  exact law_contract (P := Try.prog) (fun L h1 h2 => pac_fc L h1 h2) (fun _ _ => rfl) rfl rfl rfl pac_laid (by kernel_rfl) (of_decide_eq_true (by kernel_rfl)) Try.underlying22 Try.underlying3 (by kernel_rfl) Try.underlying4 W base args ds gs before hval hW
theorem pac_over : Rows.profilesAreCloseRow.holds Try.pinned (OpenSpec.ofChange Rows.profilesAreCloseSpec) :=
  OpenClaim.holds_of_wide 5 Try.f5 rfl rfl rfl rfl rfl rfl rfl ⟨rfl, rfl, rfl, rfl, rfl⟩ rfl rfl rfl rfl rfl (by kernel_rfl) Try.func5 (by kernel_rfl)
    (of_decide_eq_true (by kernel_rfl)) (by unfold Func.isWrapper; first | (rw [if_pos (by decide +kernel)]; kernel_rfl) | (rw [if_neg (by decide +kernel)]; exact ⟨rfl, rfl⟩))
    (fun os started H enc _ => pac_lifted os started H enc)
theorem profiles_are_close : Rows.ProfilesAreCloseSaid := pac_over
end Go.Proofs.Ytggbcgldnjmobaa

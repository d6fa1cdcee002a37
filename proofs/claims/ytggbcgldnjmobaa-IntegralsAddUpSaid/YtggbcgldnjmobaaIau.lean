
/-
  IntegralsAddUp returns true for every slice of integers, and leaves the slice as it was: the integrals of adjacent windows add up to that of both, and so do good times; the average is between the extremes, and so is the median. No condition.
-/
import Derived.Test.YtggbcgldnjmobaaMdn
import Derived.Test.YtggbcgldnjmobaaAdd
import Derived.Test.YtggbcgldnjmobaaRdy
import Derived.Test.YtggbcgldnjmobaaGenC
import Derived.Test.YtggbcgldnjmobaaAiRow
import Derived.Test.YtggbcgldnjmobaaRows
namespace Go.Proofs.Ytggbcgldnjmobaa
open Go Go.Ai
set_option linter.unusedSimpArgs false
set_option linter.unusedVariables false
set_option maxHeartbeats 4000000
def A_iau : List Ann := [⟨(some ⟨[0], [], []⟩), [], [], [], []⟩, ⟨(some ⟨[3,29], [29], []⟩), [], [], [], []⟩, ⟨(some ⟨[3,4,5,29], [29], []⟩), [], [], [], []⟩, ⟨(some ⟨[3,4,5,6,29], [29], []⟩), [], [], [], []⟩, ⟨(some ⟨[4,5,6,7], [], []⟩), [], [], [], []⟩, ⟨(some ⟨[4,5,6,7,8,9,10], [], []⟩), [], [], [], []⟩, ⟨(some ⟨[4,5,6,8,9,10,11,12,13], [], []⟩), [], [], [], []⟩, ⟨(some ⟨[4,5,6,8,9,10,11,12,13,14,15,16], [], []⟩), [], [], [], []⟩, ⟨(some ⟨[4,5,6,15,96], [], []⟩), [], [], [], []⟩, ⟨(some ⟨[2], [], []⟩), [], [], [], []⟩, ⟨(some ⟨[4,15,17], [17], []⟩), [], [], [], []⟩, ⟨(some ⟨[4,10,15,17,18,19], [17,18], []⟩), [], [], [], []⟩, ⟨(some ⟨[4,10,13,15,17,18,19,20,21,22], [17,18], []⟩), [], [], [], []⟩, ⟨(some ⟨[4,10,13,15,16,17,18,19,20,21,22,23,24], [17,18], []⟩), [], [], [], []⟩, ⟨(some ⟨[10,13,15,16,18,19,20,21,22,23,24,25,26], [18], []⟩), [], [], [], []⟩, ⟨(some ⟨[18,19,20,21,23,162], [18], []⟩), [], [], [], []⟩, ⟨(some ⟨[2], [], []⟩), [], [], [], []⟩, ⟨(some ⟨[18,20,21,23,164], [18], []⟩), [], [], [], []⟩, ⟨(some ⟨[2], [], []⟩), [], [], [], []⟩, ⟨(some ⟨[2], [], []⟩), [], [], [], []⟩]
def C_iau : AC := (.seq (.reg false [⟨(some 2), none, .mv (.v (.bool false))⟩] (some ⟨[0], [], []⟩))
  (.seq (.reg false [⟨(some 27), none, .mv (.t 0)⟩, ⟨(some 28), none, .build [(.slice none 0 0), (.int .i64 (0))] [(0, 1, (.t 27))]⟩, ⟨(some 29), none, .box (.t 28)⟩, ⟨(some 3), none, .mv (.t 29)⟩] (some ⟨[3,29], [29], []⟩))
  (.seq (.reg false [⟨(some 30), none, .mv (.t 3)⟩, ⟨(some 31), none, .callx (.f 38) [(.t 30), (.v (.int .i64 (12)))]⟩, ⟨(some 32), none, .mv (.t 3)⟩, ⟨(some 33), none, .callx (.f 40) [(.t 32), (.v (.int .i64 (0))), (.v (.int .i64 (60)))]⟩, ⟨(some 4), none, .mv (.t 31)⟩, ⟨(some 5), none, .mv (.t 33)⟩] (some ⟨[3,4,5,29], [29], []⟩))
  (.seq (.reg false [⟨(some 34), none, .mv (.t 5)⟩, ⟨(some 35), none, .mv (.t 3)⟩, ⟨(some 36), none, .callx (.f 40) [(.t 35), (.v (.int .i64 (0))), (.v (.int .i64 (80)))]⟩, ⟨(some 37), none, .bin .add (.t 34) (.t 36)⟩, ⟨(some 6), none, .mv (.t 37)⟩] (some ⟨[3,4,5,6,29], [29], []⟩))
  (.seq (.reg false [⟨(some 38), none, .mv (.t 5)⟩, ⟨(some 39), none, .mv (.t 3)⟩, ⟨(some 40), none, .mv (.t 6)⟩, ⟨(some 41), none, .mv (.t 5)⟩, ⟨(some 42), none, .bin .sub (.t 40) (.t 41)⟩, ⟨(some 43), none, .bin .add (.t 42) (.v (.int .i64 (1)))⟩, ⟨(some 44), none, .callx (.f 44) [(.t 39), (.t 43)]⟩, ⟨(some 45), none, .bin .add (.t 38) (.t 44)⟩, ⟨(some 7), none, .mv (.t 45)⟩] (some ⟨[4,5,6,7], [], []⟩))
  (.seq (.reg false [⟨(some 47), none, .mv (.t 4)⟩, ⟨(some 48), none, .mv (.t 5)⟩, ⟨(some 49), none, .mv (.t 7)⟩, ⟨(some 50), none, .build [(.int .i64 (0)), (.int .i64 (0))] [(0, 1, (.t 48)), (1, 1, (.t 49))]⟩, ⟨(some 51), none, .call (.f 60) [(.t 47), (.t 50)]⟩, ⟨(some 46), none, .mv (.t 51)⟩, ⟨(some 52), none, .extr (.t 46) 0⟩, ⟨(some 53), none, .extr (.t 46) 1⟩, ⟨(some 54), none, .extr (.t 46) 2⟩, ⟨(some 8), none, .mv (.t 52)⟩, ⟨(some 9), none, .mv (.t 53)⟩, ⟨(some 10), none, .mv (.t 54)⟩] (some ⟨[4,5,6,7,8,9,10], [], []⟩))
  (.seq (.reg false [⟨(some 56), none, .mv (.t 4)⟩, ⟨(some 57), none, .mv (.t 7)⟩, ⟨(some 58), none, .mv (.t 6)⟩, ⟨(some 59), none, .build [(.int .i64 (0)), (.int .i64 (0))] [(0, 1, (.t 57)), (1, 1, (.t 58))]⟩, ⟨(some 60), none, .call (.f 60) [(.t 56), (.t 59)]⟩, ⟨(some 55), none, .mv (.t 60)⟩, ⟨(some 61), none, .extr (.t 55) 0⟩, ⟨(some 62), none, .extr (.t 55) 1⟩, ⟨(some 63), none, .extr (.t 55) 2⟩, ⟨(some 11), none, .mv (.t 61)⟩, ⟨(some 12), none, .mv (.t 62)⟩, ⟨(some 13), none, .mv (.t 63)⟩] (some ⟨[4,5,6,8,9,10,11,12,13], [], []⟩))
  (.seq (.reg false [⟨(some 65), none, .mv (.t 4)⟩, ⟨(some 66), none, .mv (.t 5)⟩, ⟨(some 67), none, .mv (.t 6)⟩, ⟨(some 68), none, .build [(.int .i64 (0)), (.int .i64 (0))] [(0, 1, (.t 66)), (1, 1, (.t 67))]⟩, ⟨(some 69), none, .call (.f 60) [(.t 65), (.t 68)]⟩, ⟨(some 64), none, .mv (.t 69)⟩, ⟨(some 70), none, .extr (.t 64) 0⟩, ⟨(some 71), none, .extr (.t 64) 1⟩, ⟨(some 72), none, .extr (.t 64) 2⟩, ⟨(some 14), none, .mv (.t 70)⟩, ⟨(some 15), none, .mv (.t 71)⟩, ⟨(some 16), none, .mv (.t 72)⟩] (some ⟨[4,5,6,8,9,10,11,12,13,14,15,16], [], []⟩))
  (.seq (.seq (.reg false [⟨(some 73), none, .mv (.t 10)⟩, ⟨(some 74), none, .bin .neq (.t 73) (.v (.int .i64 (0)))⟩, ⟨(some 75), none, .mv (.t 74)⟩, ⟨(some 76), (some (75, false)), .mv (.t 13)⟩, ⟨(some 77), (some (75, false)), .bin .neq (.t 76) (.v (.int .i64 (0)))⟩, ⟨(some 78), none, .pick (.t 75) (.v (.bool true)) (.t 77)⟩, ⟨(some 79), none, .mv (.t 78)⟩, ⟨(some 80), (some (79, false)), .mv (.t 16)⟩, ⟨(some 81), (some (79, false)), .bin .neq (.t 80) (.v (.int .i64 (0)))⟩, ⟨(some 82), none, .pick (.t 79) (.v (.bool true)) (.t 81)⟩, ⟨(some 83), none, .mv (.t 82)⟩, ⟨(some 84), (some (83, false)), .mv (.t 8)⟩, ⟨(some 85), (some (83, false)), .mv (.t 11)⟩, ⟨(some 86), (some (83, false)), .bin .add (.t 84) (.t 85)⟩, ⟨(some 87), (some (83, false)), .mv (.t 14)⟩, ⟨(some 88), (some (83, false)), .bin .neq (.t 86) (.t 87)⟩, ⟨(some 89), none, .pick (.t 83) (.v (.bool true)) (.t 88)⟩, ⟨(some 90), none, .mv (.t 89)⟩, ⟨(some 91), (some (90, false)), .mv (.t 9)⟩, ⟨(some 92), (some (90, false)), .mv (.t 12)⟩, ⟨(some 93), (some (90, false)), .bin .add (.t 91) (.t 92)⟩, ⟨(some 94), (some (90, false)), .mv (.t 15)⟩, ⟨(some 95), (some (90, false)), .bin .neq (.t 93) (.t 94)⟩, ⟨(some 96), none, .pick (.t 90) (.v (.bool true)) (.t 95)⟩] (some ⟨[4,5,6,15,96], [], []⟩))
  (.cond (.t 96)
  (.seq (.reg false [⟨(some 2), none, .mv (.v (.bool false))⟩] (some ⟨[2], [], []⟩))
  .ret)
  .skip))
  (.seq (.reg false [⟨(some 97), none, .mv (.t 5)⟩, ⟨(some 98), none, .mv (.t 6)⟩, ⟨(some 99), none, .build [(.int .i64 (0)), (.int .i64 (0))] [(0, 1, (.t 97)), (1, 1, (.t 98))]⟩, ⟨(some 17), none, .alloc [(.int .i64 (0)), (.int .i64 (0))]⟩, ⟨none, none, .store 2 (.t 17) (.t 99)⟩] (some ⟨[4,15,17], [17], []⟩))
  (.seq (.reg false [⟨(some 101), none, .mv (.t 4)⟩, ⟨(some 102), none, .load true 2 (.t 17)⟩, ⟨(some 103), none, .call (.f 61) [(.t 101), (.t 102)]⟩, ⟨(some 100), none, .mv (.t 103)⟩, ⟨(some 104), none, .extr (.t 100) 0⟩, ⟨(some 105), none, .extr (.t 100) 1⟩, ⟨(some 106), none, .extr (.t 100) 2⟩, ⟨(some 18), none, .alloc [(.int .i64 (0)), (.int .i64 (0))]⟩, ⟨none, none, .store 2 (.t 18) (.t 104)⟩, ⟨(some 19), none, .mv (.t 105)⟩, ⟨(some 10), none, .mv (.t 106)⟩] (some ⟨[4,10,15,17,18,19], [17,18], []⟩))
  (.seq (.reg false [⟨(some 108), none, .mv (.t 4)⟩, ⟨(some 109), none, .load true 2 (.t 17)⟩, ⟨(some 110), none, .call (.f 62) [(.t 108), (.t 109)]⟩, ⟨(some 107), none, .mv (.t 110)⟩, ⟨(some 111), none, .extr (.t 107) 0⟩, ⟨(some 112), none, .extr (.t 107) 1⟩, ⟨(some 113), none, .extr (.t 107) 2⟩, ⟨(some 114), none, .extr (.t 107) 3⟩, ⟨(some 20), none, .mv (.t 111)⟩, ⟨(some 21), none, .mv (.t 112)⟩, ⟨(some 22), none, .mv (.t 113)⟩, ⟨(some 13), none, .mv (.t 114)⟩] (some ⟨[4,10,13,15,17,18,19,20,21,22], [17,18], []⟩))
  (.seq (.reg false [⟨(some 116), none, .mv (.t 4)⟩, ⟨(some 117), none, .load true 2 (.t 17)⟩, ⟨(some 118), none, .call (.f 63) [(.t 116), (.t 117)]⟩, ⟨(some 115), none, .mv (.t 118)⟩, ⟨(some 119), none, .extr (.t 115) 0⟩, ⟨(some 120), none, .extr (.t 115) 1⟩, ⟨(some 121), none, .extr (.t 115) 2⟩, ⟨(some 23), none, .mv (.t 119)⟩, ⟨(some 24), none, .mv (.t 120)⟩, ⟨(some 16), none, .mv (.t 121)⟩] (some ⟨[4,10,13,15,16,17,18,19,20,21,22,23,24], [17,18], []⟩))
  (.seq (.reg false [⟨(some 123), none, .mv (.t 4)⟩, ⟨(some 124), none, .load true 2 (.t 17)⟩, ⟨(some 125), none, .call (.f 64) [(.t 123), (.t 124), (.v (.int .i64 (1)))]⟩, ⟨(some 122), none, .mv (.t 125)⟩, ⟨(some 126), none, .extr (.t 122) 0⟩, ⟨(some 127), none, .extr (.t 122) 1⟩, ⟨(some 25), none, .mv (.t 126)⟩, ⟨(some 26), none, .mv (.t 127)⟩] (some ⟨[10,13,15,16,18,19,20,21,22,23,24,25,26], [18], []⟩))
  (.seq (.seq (.reg false [⟨(some 128), none, .mv (.t 10)⟩, ⟨(some 129), none, .bin .neq (.t 128) (.v (.int .i64 (0)))⟩, ⟨(some 130), none, .mv (.t 129)⟩, ⟨(some 131), (some (130, false)), .mv (.t 13)⟩, ⟨(some 132), (some (130, false)), .bin .neq (.t 131) (.v (.int .i64 (0)))⟩, ⟨(some 133), none, .pick (.t 130) (.v (.bool true)) (.t 132)⟩, ⟨(some 134), none, .mv (.t 133)⟩, ⟨(some 135), (some (134, false)), .mv (.t 16)⟩, ⟨(some 136), (some (134, false)), .bin .neq (.t 135) (.v (.int .i64 (0)))⟩, ⟨(some 137), none, .pick (.t 134) (.v (.bool true)) (.t 136)⟩, ⟨(some 138), none, .mv (.t 137)⟩, ⟨(some 139), (some (138, false)), .mv (.t 26)⟩, ⟨(some 140), (some (138, false)), .bin .neq (.t 139) (.v (.int .i64 (0)))⟩, ⟨(some 141), none, .pick (.t 138) (.v (.bool true)) (.t 140)⟩, ⟨(some 142), none, .mv (.t 141)⟩, ⟨(some 143), (some (142, false)), .mv (.t 19)⟩, ⟨(some 144), (some (142, false)), .mv (.t 15)⟩, ⟨(some 145), (some (142, false)), .bin .gtr (.t 144) (.v (.int .i64 (0)))⟩, ⟨(some 146), (some (142, false)), .eqs true false [.b] (.t 143) (.t 145)⟩, ⟨(some 147), none, .pick (.t 142) (.v (.bool true)) (.t 146)⟩, ⟨(some 148), none, .mv (.t 147)⟩, ⟨(some 149), (some (148, false)), .mv (.t 22)⟩, ⟨(some 150), (some (148, false)), .mv (.t 19)⟩, ⟨(some 151), (some (148, false)), .eqs true false [.b] (.t 149) (.t 150)⟩, ⟨(some 152), none, .pick (.t 148) (.v (.bool true)) (.t 151)⟩, ⟨(some 153), none, .mv (.t 152)⟩, ⟨(some 154), (some (153, false)), .mv (.t 24)⟩, ⟨(some 155), (some (153, false)), .mv (.t 19)⟩, ⟨(some 156), (some (153, false)), .eqs true false [.b] (.t 154) (.t 155)⟩, ⟨(some 157), none, .pick (.t 153) (.v (.bool true)) (.t 156)⟩, ⟨(some 158), none, .mv (.t 157)⟩, ⟨(some 159), (some (158, false)), .mv (.t 25)⟩, ⟨(some 160), (some (158, false)), .mv (.t 15)⟩, ⟨(some 161), (some (158, false)), .bin .neq (.t 159) (.t 160)⟩, ⟨(some 162), none, .pick (.t 158) (.v (.bool true)) (.t 161)⟩] (some ⟨[18,19,20,21,23,162], [18], []⟩))
  (.cond (.t 162)
  (.seq (.reg false [⟨(some 2), none, .mv (.v (.bool false))⟩] (some ⟨[2], [], []⟩))
  .ret)
  .skip))
  (.seq (.seq (.reg false [⟨(some 163), none, .mv (.t 19)⟩, ⟨(some 164), none, .un .not (.t 163)⟩] (some ⟨[18,20,21,23,164], [18], []⟩))
  (.cond (.t 164)
  (.seq (.reg false [⟨(some 165), none, .call (.f 42) []⟩, ⟨(some 2), none, .mv (.t 165)⟩] (some ⟨[2], [], []⟩))
  .ret)
  .skip))
  (.seq (.reg false [⟨(some 166), none, .fadr 1 (.t 18)⟩, ⟨(some 167), none, .load false 1 (.t 166)⟩, ⟨(some 168), none, .bin .gtr (.t 167) (.v (.int .i64 (0)))⟩, ⟨(some 169), none, .mv (.t 168)⟩, ⟨(some 170), (some (169, true)), .mv (.t 20)⟩, ⟨(some 171), (some (169, true)), .fadr 1 (.t 18)⟩, ⟨(some 172), (some (169, true)), .load false 1 (.t 171)⟩, ⟨(some 173), (some (169, true)), .bin .mul (.t 170) (.t 172)⟩, ⟨(some 174), (some (169, true)), .fadr 0 (.t 18)⟩, ⟨(some 175), (some (169, true)), .load false 1 (.t 174)⟩, ⟨(some 176), (some (169, true)), .bin .leq (.t 173) (.t 175)⟩, ⟨(some 177), none, .pick (.t 169) (.t 176) (.v (.bool false))⟩, ⟨(some 178), none, .mv (.t 177)⟩, ⟨(some 179), (some (178, true)), .fadr 0 (.t 18)⟩, ⟨(some 180), (some (178, true)), .load false 1 (.t 179)⟩, ⟨(some 181), (some (178, true)), .mv (.t 21)⟩, ⟨(some 182), (some (178, true)), .fadr 1 (.t 18)⟩, ⟨(some 183), (some (178, true)), .load false 1 (.t 182)⟩, ⟨(some 184), (some (178, true)), .bin .mul (.t 181) (.t 183)⟩, ⟨(some 185), (some (178, true)), .bin .leq (.t 180) (.t 184)⟩, ⟨(some 186), none, .pick (.t 178) (.t 185) (.v (.bool false))⟩, ⟨(some 187), none, .mv (.t 186)⟩, ⟨(some 188), (some (187, true)), .mv (.t 20)⟩, ⟨(some 189), (some (187, true)), .mv (.t 23)⟩, ⟨(some 190), (some (187, true)), .bin .leq (.t 188) (.t 189)⟩, ⟨(some 191), none, .pick (.t 187) (.t 190) (.v (.bool false))⟩, ⟨(some 192), none, .mv (.t 191)⟩, ⟨(some 193), (some (192, true)), .mv (.t 23)⟩, ⟨(some 194), (some (192, true)), .mv (.t 21)⟩, ⟨(some 195), (some (192, true)), .bin .leq (.t 193) (.t 194)⟩, ⟨(some 196), none, .pick (.t 192) (.t 195) (.v (.bool false))⟩, ⟨(some 197), none, .mv (.t 196)⟩, ⟨(some 198), (some (197, true)), .call (.f 42) []⟩, ⟨(some 199), none, .pick (.t 197) (.t 198) (.v (.bool false))⟩, ⟨(some 2), none, .mv (.t 199)⟩] (some ⟨[2], [], []⟩))
  .ret)))))))))))))))))
theorem c_iau : compileCode Try.prog Try.f12.ntmps (Try.f12.body.getD .skip) A_iau = some (C_iau, []) := by kernel_rfl
theorem r_iau : compileRes Try.prog Try.f12.results.toList = some [.t 2] := by kernel_rfl
theorem b_iau : Try.f12.body = some (Try.f12.body.getD .skip) := by kernel_rfl
theorem n_iau : (Try.f12.name == "runtime.NumGoroutine") = false := by kernel_rfl
theorem fc_iau {xt : Option (List Cel)} {args : List Val} {R : List Cel → Val → Prop} (hn : (if xt.isSome then 1 else 0) + args.length ≤ Try.f12.ntmps) (h : ex Try.prog C_iau [] (fpost xt [.t 2] R) (initSt xt args)) : FC Try.prog 12 xt args R :=
  fc_of_awp Try.func12 b_iau n_iau c_iau r_iau (of_decide_eq_true (by kernel_rfl)) hn h


theorem both_0 {l : List Smp} (hs : serFault l = 0) {f t : Int} (h : 0 ≤ f ∧ f ≤ t ∧ t ≤ 345686400000) : bothFault l f t = 0 := by
  unfold bothFault winFault; rw [hs, if_neg (by omega)]; rw [if_neg (by omega)]
theorem itg_ok {l : List Smp} {f t : Int} (h : bothFault l f t = 0) : itgSp l f t = (intS (vals f t l), intT (vals f t l), 0) := by unfold itgSp; rw [if_neg (by omega)]
theorem avg_z {l : List Smp} {f t : Int} (h : bothFault l f t = 0) (c : intT (vals f t l) = 0) : avgSp l f t = ((0, 0), false, 0) := by
  unfold avgSp; rw [if_neg (by omega), if_pos c]
theorem avg_p {l : List Smp} {f t : Int} (h : bothFault l f t = 0) (c : ¬intT (vals f t l) = 0) : avgSp l f t = ((lowN (intS (vals f t l)) (intT (vals f t l)), lowD (intS (vals f t l)) (intT (vals f t l))), true, 0) := by
  unfold avgSp; rw [if_neg (by omega), if_neg c]
theorem ext_ok {l : List Smp} {f t : Int} (h : bothFault l f t = 0) : extSp l f t = (exSp (vals f t l), 0) := by unfold extSp; rw [if_neg (by omega)]
theorem med_ok {l : List Smp} {f t : Int} (h : bothFault l f t = 0) : mednSp l f t = ((medOf (vals f t l)).1, (medOf (vals f t l)).2, 0) := by unfold mednSp; rw [if_neg (by omega)]
theorem gt_1 {l : List Smp} {f t : Int} (h : bothFault l f t = 0) : gtSp l f t 1 = (intT (vals f t l), 0) := by unfold gtSp; rw [if_neg (by omega), if_neg (by omega), gdT_1 (good_of (bothFault_ok h).1)]
theorem vals_bd {l : List Smp} (hs : serFault l = 0) {f t : Int} (hw : 0 ≤ f ∧ f ≤ t ∧ t ≤ 345686400000) : 0 ≤ intT (vals f t l) ∧ intT (vals f t l) ≤ t - f ∧ -1000000 * intT (vals f t l) ≤ intS (vals f t l) ∧ intS (vals f t l) ≤ 1000000 * intT (vals f t l) := int_bd (vals_chain hw.2.1 hs)
theorem rtT_nil : ∀ {m : List Pc}, (∀ p ∈ m, rtPc p) → intT m = 0 → m = []
  | [], _, _ => rfl
  | p :: r, h, h0 => by
    have h1 := rtT (m := r) (fun q hq => h q (List.mem_cons_of_mem _ hq))
    have h2 := h p (List.mem_cons_self ..)
    unfold rtPc at h2
    rw [intT] at h0
    omega
/-- What is asked of the average, the extremes and the median where there are pieces. -/
theorem between {m : List Pc} (hr : ∀ p ∈ m, rtPc p) (hT : ¬intT m = 0) (hT2 : intT m ≤ 1000) :
    ∃ lo hi : Int, exSp m = (lo, hi, true) ∧ (medOf m).2 = true ∧ (lo ≤ (medOf m).1 ∧ (medOf m).1 ≤ hi) ∧ 0 < lowD (intS m) (intT m) ∧ lo * lowD (intS m) (intT m) ≤ lowN (intS m) (intT m) ∧ lowN (intS m) (intT m) ≤ hi * lowD (intS m) (intT m) ∧
      (-1000000000 ≤ lo * lowD (intS m) (intT m) ∧ hi * lowD (intS m) (intT m) ≤ 1000000000) := by
  cases m with
  | nil => exact absurd rfl hT
  | cons p r =>
    have hb := ex_bd p r
    have h0 := rtT hr
    have hs := sum_bd hr hb
    have hv : ∀ q ∈ p :: r, -1000000 ≤ q.v ∧ q.v ≤ 1000000 := fun q hq => ⟨(hr q hq).2.2.2.1, (hr q hq).2.2.2.2⟩
    have hlo : -1000000 ≤ (minP p r).v := by
      rw [minP_v]
      have : ∀ (r : List Pc) (b : Int), -1000000 ≤ b → (∀ q ∈ r, -1000000 ≤ q.v) → -1000000 ≤ mnG b r := by
        intro r
        induction r with
        | nil => intro b hb _; exact hb
        | cons x r ih =>
          intro b hb hq
          have hx := hq x (List.mem_cons_self ..)
          exact ih (min b x.v) (by omega) (fun q h => hq q (List.mem_cons_of_mem _ h))
      exact this r p.v (hv p (List.mem_cons_self ..)).1 (fun q h => (hv q (List.mem_cons_of_mem _ h)).1)
    have hhi : (maxP p r).v ≤ 1000000 := by
      rw [maxP_v]
      have : ∀ (r : List Pc) (b : Int), b ≤ 1000000 → (∀ q ∈ r, q.v ≤ 1000000) → mxG b r ≤ 1000000 := by
        intro r
        induction r with
        | nil => intro b hb _; exact hb
        | cons x r ih =>
          intro b hb hq
          have hx := hq x (List.mem_cons_self ..)
          exact ih (max b x.v) (by omega) (fun q h => hq q (List.mem_cons_of_mem _ h))
      exact this r p.v (hv p (List.mem_cons_self ..)).2 (fun q h => (hv q (List.mem_cons_of_mem _ h)).2)
    obtain ⟨a1, a2, a3⟩ := avg_bd (S := intS (p :: r)) (T := intT (p :: r)) (by omega) hs.1 hs.2
    obtain ⟨e1, e2, g3, g4⟩ := low_eq (intS (p :: r)) (intT (p :: r)) (by omega)
    obtain ⟨m1, q, m2, m3⟩ := medOf_in (m := p :: r) (by simp) hr
    have hq := hb q m2
    have hd : lowD (intS (p :: r)) (intT (p :: r)) ≤ 1000 := by
      have := Int.mul_le_mul_of_nonneg_right (show 1 ≤ lowG (intS (p :: r)) (intT (p :: r)) by omega) (show 0 ≤ lowD (intS (p :: r)) (intT (p :: r)) by omega)
      omega
    have b1 := Int.mul_le_mul_of_nonneg_right hlo (show 0 ≤ lowD (intS (p :: r)) (intT (p :: r)) by omega)
    have b2 := Int.mul_le_mul_of_nonneg_right hhi (show 0 ≤ lowD (intS (p :: r)) (intT (p :: r)) by omega)
    exact ⟨(minP p r).v, (maxP p r).v, rfl, m1, by rw [m3]; exact hq, a1, a2, a3, by omega, by omega⟩
set_option maxHeartbeats 12000000 in
set_option maxRecDepth 8000 in
theorem iau_fc (L : List Int) (hL : ∀ x ∈ L, I64 x) (hl : L.length ≤ 9223372036854775807) : FC Try.prog 12 none [ints false L] (fun _ r => r = bv true) := by
  refine fc_iau (by simp +arith) ?_
  unfold C_iau
  simp (maxSteps := 1000000) (disch := omega) only [go_sem, eq_self, decide_true, decide_false, not_true_eq_false, not_false_eq_true, reduceIte, reduceCtorEq, Nat.reduceEqDiff, Nat.reduceAdd, Nat.reduceSub, Nat.reduceLeDiff]
  refine callx_gen (p := 0) (rightCurve_fc 12 (by omega) (by omega)) hL hl (by omega) (by omega) ⟨_, [], rfl, by simp, rfl⟩ ?_
  rintro pa r ha1 ha2 ⟨c, hs, hlm, rfl⟩
  refine ⟨rfl, ?_⟩
  unfold strm
  simp (maxSteps := 1000000) (disch := omega) only [go_sem, eq_self, decide_true, decide_false, not_true_eq_false, not_false_eq_true, reduceIte, reduceCtorEq, Nat.reduceEqDiff, Nat.reduceAdd, Nat.reduceSub, Nat.reduceLeDiff]
  refine callx_gen (range_fc 0 60 (by omega) (by omega) (by omega)) hL hl (by omega) (by omega) ⟨_, 0, by omega, by omega, rfl⟩ ?_
  rintro pf r haf hbf ⟨zf, hzf, hyf, rfl⟩
  refine ⟨rfl, ?_⟩
  unfold strm
  simp (maxSteps := 1000000) (disch := omega) only [go_sem, eq_self, decide_true, decide_false, not_true_eq_false, not_false_eq_true, reduceIte, reduceCtorEq, Nat.reduceEqDiff, Nat.reduceAdd, Nat.reduceSub, Nat.reduceLeDiff]
  refine callx_gen (range_fc 0 80 (by omega) (by omega) (by omega)) hL hl (by omega) (by omega) ⟨_, 0, by omega, by omega, rfl⟩ ?_
  rintro pd r had hbd ⟨zd, hzd, hyd, rfl⟩
  refine ⟨rfl, ?_⟩
  unfold strm
  simp (maxSteps := 1000000) (disch := omega) only [go_sem, eq_self, decide_true, decide_false, not_true_eq_false, not_false_eq_true, reduceIte, reduceCtorEq, Nat.reduceEqDiff, Nat.reduceAdd, Nat.reduceSub, Nat.reduceLeDiff]
  rw [show zf + zd - zf + 1 = zd + 1 by omega]
  refine callx_gen (next_fc (zd + 1) (by omega) (by omega)) hL hl (by omega) (by omega) ⟨_, 0, by omega, by omega, rfl⟩ ?_
  rintro pm r ham hbm ⟨zm, hzm, hym, rfl⟩
  refine ⟨rfl, ?_⟩
  unfold strm
  simp (maxSteps := 1000000) (disch := omega) only [go_sem, eq_self, decide_true, decide_false, not_true_eq_false, not_false_eq_true, reduceIte, reduceCtorEq, Nat.reduceEqDiff, Nat.reduceAdd, Nat.reduceSub, Nat.reduceLeDiff]
  have w1 : 0 ≤ zf ∧ zf ≤ zf + zm ∧ zf + zm ≤ 345686400000 := by omega
  have w2 : 0 ≤ zf + zm ∧ zf + zm ≤ zf + zd ∧ zf + zd ≤ 345686400000 := by omega
  have w3 : 0 ≤ zf ∧ zf ≤ zf + zd ∧ zf + zd ≤ 345686400000 := by omega
  have k1 := both_0 hs w1
  have k2 := both_0 hs w2
  have k3 := both_0 hs w3
  obtain ⟨s1, s2⟩ := vals_add hs w1.2.1 w2.2.1
  have v1 := vals_bd hs w1
  have v2 := vals_bd hs w2
  have v3 := vals_bd hs w3
  have hrt := (vals_rt hs w3).1
  have havz := avg_z k3
  have havp := avg_p k3
  have hex := ext_ok k3
  have hmd := med_ok k3
  have hgt := gt_1 k3
  refine CALL_det (integralP_fc c (by omega) zf (zf + zm)) (.inl rfl) ?_
  rw [itg_ok k1]
  simp (maxSteps := 1000000) (disch := omega) only [go_sem, eq_self, decide_true, decide_false, not_true_eq_false, not_false_eq_true, reduceIte, reduceCtorEq, Nat.reduceEqDiff, Nat.reduceAdd, Nat.reduceSub, Nat.reduceLeDiff]
  refine CALL_det (integralP_fc c (by omega) (zf + zm) (zf + zd)) (.inl rfl) ?_
  rw [itg_ok k2]
  simp (maxSteps := 1000000) (disch := omega) only [go_sem, eq_self, decide_true, decide_false, not_true_eq_false, not_false_eq_true, reduceIte, reduceCtorEq, Nat.reduceEqDiff, Nat.reduceAdd, Nat.reduceSub, Nat.reduceLeDiff]
  refine CALL_det (integralP_fc c (by omega) zf (zf + zd)) (.inl rfl) ?_
  rw [itg_ok k3]
  have hbt := between (m := vals zf (zf + zd) c) hrt
  have hnl := rtT_nil hrt
  generalize vals zf (zf + zd) c = m at *
  generalize intS (vals zf (zf + zm) c) = S1 at *
  generalize intT (vals zf (zf + zm) c) = T1 at *
  generalize intS (vals (zf + zm) (zf + zd) c) = S2 at *
  generalize intT (vals (zf + zm) (zf + zd) c) = T2 at *
  by_cases hT : intT m = 0
  · have hm := hnl hT
    subst hm
    have e1 : intS ([] : List Pc) = 0 := rfl
    have e2 : intT ([] : List Pc) = 0 := rfl
    rw [e1, e2] at *
    clear hbt havp
    simp (maxSteps := 1000000) (disch := omega) only [go_sem, eq_self, decide_true, decide_false, not_true_eq_false, not_false_eq_true, reduceIte, reduceCtorEq, Nat.reduceEqDiff, Nat.reduceAdd, Nat.reduceSub, Nat.reduceLeDiff]
    refine CALL_det (average_fc c (by omega) zf (zf + zd)) (.inl rfl) ?_
    rw [havz rfl]
    simp (maxSteps := 1000000) (disch := omega) only [go_sem, eq_self, decide_true, decide_false, not_true_eq_false, not_false_eq_true, reduceIte, reduceCtorEq, Nat.reduceEqDiff, Nat.reduceAdd, Nat.reduceSub, Nat.reduceLeDiff]
    refine CALL_det (extremesP_fc c (by omega) zf (zf + zd)) (.inl rfl) ?_
    rw [hex]
    unfold exSp
    simp (maxSteps := 1000000) (disch := omega) only [go_sem, eq_self, decide_true, decide_false, not_true_eq_false, not_false_eq_true, reduceIte, reduceCtorEq, Nat.reduceEqDiff, Nat.reduceAdd, Nat.reduceSub, Nat.reduceLeDiff]
    refine CALL_det (median_fc c (by omega) zf (zf + zd)) (.inl rfl) ?_
    rw [hmd, medOf_nil]
    simp (maxSteps := 1000000) (disch := omega) only [go_sem, eq_self, decide_true, decide_false, not_true_eq_false, not_false_eq_true, reduceIte, reduceCtorEq, Nat.reduceEqDiff, Nat.reduceAdd, Nat.reduceSub, Nat.reduceLeDiff]
    refine CALL_det (goodTime_fc c (by omega) zf (zf + zd) 1) (.inl rfl) ?_
    rw [hgt]
    simp (maxSteps := 1000000) (disch := omega) only [go_sem, eq_self, decide_true, decide_false, not_true_eq_false, not_false_eq_true, reduceIte, reduceCtorEq, Nat.reduceEqDiff, Nat.reduceAdd, Nat.reduceSub, Nat.reduceLeDiff]
    rw [show decide ((0 : Int) < 0) = false from rfl]
    simp (maxSteps := 1000000) (disch := omega) only [go_sem, eq_self, decide_true, decide_false, not_true_eq_false, not_false_eq_true, reduceIte, reduceCtorEq, Nat.reduceEqDiff, Nat.reduceAdd, Nat.reduceSub, Nat.reduceLeDiff]
    refine CALL_det ready_fc (.inl rfl) ?_
    simp (maxSteps := 1000000) (disch := omega) only [go_sem, eq_self, decide_true, decide_false, not_true_eq_false, not_false_eq_true, reduceIte, reduceCtorEq, Nat.reduceEqDiff, Nat.reduceAdd, Nat.reduceSub, Nat.reduceLeDiff]
  · obtain ⟨lo, hi, b1, b2, ⟨b3, b4⟩, b5, b6, b7, b8, b9⟩ := hbt hT (by omega)
    have hav := havp hT
    rw [b1] at hex
    rw [b2] at hmd
    clear havz havp hnl
    generalize (medOf m).1 = y at *
    generalize lowN (intS m) (intT m) = N at *
    generalize lowD (intS m) (intT m) = D at *
    generalize intS m = S at *
    generalize intT m = T at *
    generalize hlD : lo * D = lD at *
    generalize hhD : hi * D = hD at *
    simp (maxSteps := 1000000) (disch := omega) only [go_sem, eq_self, decide_true, decide_false, not_true_eq_false, not_false_eq_true, reduceIte, reduceCtorEq, Nat.reduceEqDiff, Nat.reduceAdd, Nat.reduceSub, Nat.reduceLeDiff]
    refine CALL_det (average_fc c (by omega) zf (zf + zd)) (.inl rfl) ?_
    rw [hav]
    simp (maxSteps := 1000000) (disch := omega) only [go_sem, eq_self, decide_true, decide_false, not_true_eq_false, not_false_eq_true, reduceIte, reduceCtorEq, Nat.reduceEqDiff, Nat.reduceAdd, Nat.reduceSub, Nat.reduceLeDiff]
    refine CALL_det (extremesP_fc c (by omega) zf (zf + zd)) (.inl rfl) ?_
    rw [hex]
    simp (maxSteps := 1000000) (disch := omega) only [go_sem, eq_self, decide_true, decide_false, not_true_eq_false, not_false_eq_true, reduceIte, reduceCtorEq, Nat.reduceEqDiff, Nat.reduceAdd, Nat.reduceSub, Nat.reduceLeDiff]
    refine CALL_det (median_fc c (by omega) zf (zf + zd)) (.inl rfl) ?_
    rw [hmd]
    simp (maxSteps := 1000000) (disch := omega) only [go_sem, eq_self, decide_true, decide_false, not_true_eq_false, not_false_eq_true, reduceIte, reduceCtorEq, Nat.reduceEqDiff, Nat.reduceAdd, Nat.reduceSub, Nat.reduceLeDiff]
    refine CALL_det (goodTime_fc c (by omega) zf (zf + zd) 1) (.inl rfl) ?_
    rw [hgt]
    simp (maxSteps := 1000000) (disch := omega) only [go_sem, eq_self, decide_true, decide_false, not_true_eq_false, not_false_eq_true, reduceIte, reduceCtorEq, Nat.reduceEqDiff, Nat.reduceAdd, Nat.reduceSub, Nat.reduceLeDiff]
    rw [hlD, hhD]
    rw [show decide (0 < T) = true from decide_eq_true (by omega)]
    simp (maxSteps := 1000000) (disch := omega) only [go_sem, eq_self, decide_true, decide_false, not_true_eq_false, not_false_eq_true, reduceIte, reduceCtorEq, Nat.reduceEqDiff, Nat.reduceAdd, Nat.reduceSub, Nat.reduceLeDiff]
    refine CALL_det ready_fc (.inl rfl) ?_
    simp (maxSteps := 1000000) (disch := omega) only [go_sem, eq_self, decide_true, decide_false, not_true_eq_false, not_false_eq_true, reduceIte, reduceCtorEq, Nat.reduceEqDiff, Nat.reduceAdd, Nat.reduceSub, Nat.reduceLeDiff]
theorem iau_own : ownKnob Try.prog.godebug = none := by kernel_rfl
theorem iau_laid : laidOutB Try.prog = true := by kernel_rfl
set_option maxRecDepth 100000 in
theorem iau_lifted (os : Os) (started : os.Started) (H : Type) (enc : TypeId × Value → H) :
    ReturnsInHanded {} Try.checked os 12 .any (Rows.integralsAddUpSpec.pre6 enc Try.prog Try.f12 Rows.integralsAddUpRow.domain false) (Rows.integralsAddUpSpec.post enc Try.prog Try.f12 false true false false) := by
  refine returnsInHanded_of_change (C := Try.checked) iau_own started (by kernel_rfl) Try.func12
    (ChangeSpec.witness6 (enc := enc) (C := Try.checked) false ⟨#[], #[.slice none 0 0], []⟩ 8 (by kernel_rfl) (by kernel_rfl) (by kernel_rfl) (by kernel_rfl)) ?_
  intro W base args ds gs before hval hW _ _
  exact law_contract (P := Try.prog) (fun L h1 h2 => iau_fc L h1 h2) (fun _ _ => rfl) rfl rfl rfl iau_laid (by kernel_rfl) (of_decide_eq_true (by kernel_rfl)) Try.underlying22 Try.underlying3 (by kernel_rfl) Try.underlying4 W base args ds gs before hval hW
theorem iau_over : Rows.integralsAddUpRow.holds Try.pinned (OpenSpec.ofChange Rows.integralsAddUpSpec) :=
  OpenClaim.holds_of_wide 12 Try.f12 rfl rfl rfl rfl rfl rfl rfl ⟨rfl, rfl, rfl, rfl, rfl⟩ rfl rfl rfl rfl rfl (by kernel_rfl) Try.func12 (by kernel_rfl)
    (of_decide_eq_true (by kernel_rfl)) (by unfold Func.isWrapper; first | (rw [if_pos (by decide +kernel)]; kernel_rfl) | (rw [if_neg (by decide +kernel)]; exact ⟨rfl, rfl⟩))
    (fun os started H enc _ => iau_lifted os started H enc)
theorem integrals_add_up : Rows.IntegralsAddUpSaid := iau_over
end Go.Proofs.Ytggbcgldnjmobaa
